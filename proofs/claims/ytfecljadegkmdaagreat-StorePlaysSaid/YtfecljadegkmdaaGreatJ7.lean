/- Laws and walks. No condition beyond what each says. -/
import Derived.Test.YtfecljadegkmdaaGreatJ6
namespace Go.Proofs.YtfecljadegkmdaaGreat
open Go Go.Gm Tryz
set_option linter.unusedVariables false
set_option linter.unusedSimpArgs false
set_option maxHeartbeats 4000000
set_option maxRecDepth 8000
theorem Zsa (b:Nat) {A:StA} {id:Int} {t:TxD} {w:Bool} (h:txA A id=(t,w)) (hok:Zaz A) (hf:ZbR A):FnG prog 11 1 [.is (.pointer (some ⟨b,0,none⟩)),.int .i64 id] [ZO (.pointer (some ⟨b,0,none⟩)) A] (.tup [.agg (rTx t),.bool w]) (fun _=>[ZO (.pointer (some ⟨b,0,none⟩)) A]):=by have k:=Zss b A hok hf id;rw [h] at k;exact k
theorem Zlj (b:Nat) {A:StA} {key:Int} {l:List Int} (h:Zf7 A key=l) (hok:Zaz A) (hf:ZbR A):FnG prog 19 1 [.is (.pointer (some ⟨b,0,none⟩)),.int .i64 key] [ZO (.pointer (some ⟨b,0,none⟩)) A] (.sl Zo l) (fun _=>[ZO (.pointer (some ⟨b,0,none⟩)) A]):=by have k:=ZkU b A hok hf key;rw [h] at k;exact k
theorem Ent.sure {c:Prop} {s:SF} (h:c):Ent s (.when c s):=fun _ _ _ _ k=>⟨fun _=>k,fun n=>absurd h n⟩
theorem Zj6  : FnP prog 9 [] (.bool true):=by
 refine FnP.mk func9 Z ntmps9 Z fun B a w F V hfr O=>Ya ?_
 refine rZ O qB V [0] [0] fun O=>Ya ?_
 replace O:=O.fresh 61 rfl
 obtain ⟨F,O⟩:=O.nM [0] Xab
 refine rS O (qf (Zdq 61 (Zpg) func7 Z kr Args.nil PV.ptr_one) qz r1 (qO rr qZ)) V QL Xab fun τ O=>?_
 try dsimp only [RS.sub,SF.sub,CF.sub,csub,Anc.sub,List.map,rRt,rSq,Zt,rTx,Zp,Zi,Zo,rOp,ZC] at O
 generalize τ 22=v22 at O
 obtain ⟨_,_,_,ho⟩:=O.obGet 61 rfl
 obtain ⟨b1,rfl⟩:=Zip ho
 clear ho
 replace O:=O.turn 61 Z (r':=RS.hp (ZO (.pointer (some ⟨b1,0,none⟩)) Zg3)) (fun _ _ _ _ h=>h)
 obtain ⟨F,O⟩:=O.nM QL Xab
 refine Za (Ya (Ya (rZ O (qR rr (qf (Zab _ YbW Z .t) r1 qz qZ)) V [24,1,0] Xab fun O=>?_)))
 refine Zb O Z (fun hc0=>?_) (fun hc0=>?_)
 ·simp at hc0
 refine Yd (Za (Ya (rS O (qf (oB [(1,_)] [.bool false,.int .i64 0,.int .i64 0,.int .i64 0] [(0,1),(1,1),(2,1),(3,1)] (.one Z qi one_int kr .nil)) trivial qz (qf (o_buildSliceE (sz:=4) (zs:=[.bool false,.int .i64 0,.int .i64 0,.int .i64 0]) (r:=[(0,.tmp 25)]) (l:=[_,_,_,_]) YbU kr kr kr kr Z Z (.agg Z .t kr kr .nil) Z) r1 qz (qf (oB [(0,_),(1,_),(2,.tmp 26)] [.int .i64 0,.bool false,.slice none 0 0] [(0,1),(1,1),(2,1)] (.one Z qi one_int kr (.one Z .cb ZrT kr (.one Z .t ZjH kr .nil)))) r1 qz (qf (o_buildSliceE (sz:=3) (zs:=[.int .i64 0,.bool false,.slice none 0 0]) (r:=[(0,.tmp 27)]) (l:=[_,_,_]) YbR kr kr kr kr Z Z (.agg Z .t kr kr .nil) Z) r1 qz (qf (o_buildSliceE (sz:=1) (zs:=[.int .i64 0]) (r:=[(0,_)]) (l:=[_]) YbT kr kr kr kr Z Z (.one Z qi one_int kr .nil) Z) trivial qz (qf (oB [(0,_),(1,.tmp 29)] [.int .i64 0,.slice none 0 0] [(0,1),(1,1)] (.one Z qi one_int kr (.one Z .t ZjH kr .nil))) r1 qz (qf (o_buildSliceE (sz:=2) (zs:=[.int .i64 0,.slice none 0 0]) (r:=[(0,.tmp 30)]) (l:=[_,_]) YbS kr kr kr kr Z Z (.agg Z .t kr kr .nil) Z) r1 qz (qf (oB [(0,.tmp 28),(1,.tmp 31)] [.slice none 0 0,.slice none 0 0] [(0,1),(1,1)] (.one Z .t ZjH kr (.one Z .t ZjH kr .nil))) r2 qz (qf (oH [.slice none 0 0,.slice none 0 0] 101) trivial qz (qS 2 101 r2 r1 qZ)))))))))) V Jq GJ fun τ O=>?_)))
 have O:=XD
 generalize τ 2=v2 at O
 replace O:=O.turn 101 Z (r':=RS.pt (.val v2) 30 [.pv (.sl rTx [(⟨1,true,[⟨false,5,0,0⟩]⟩:TxD)]),.pv (.sl Zp [⟨5,[1]⟩])]) (ZuS Z Z ⟨Zay.arrSl (R:=rTx) (l':=[(⟨1,true,[⟨false,5,0,0⟩]⟩:TxD)]) Z ⟨Zay.refl,Zay.refl,Zay.arrSl (R:=rOp) (l':=([⟨false,5,0,0⟩]:List OpD)) Z ZfL.refl,tv⟩,Zay.arrSl (R:=Zp) (l':=[⟨5,[1]⟩]) Z ⟨Zay.refl,Zay.arrSl (R:=Zo) (l':=[1]) Z ZfL.refl,tv⟩,tv⟩)
 obtain ⟨F,O⟩:=O.nM Jq GJ
 refine Za (Ya (rS O (qg 0 101 r1 r1 (qa 101 r1 r1 (qg 1 101 r1 r1 (qa 101 r1 r1 (qf (oB [(1,.tmp 34),(3,.tmp 36)] [.slice none 0 0,.slice none 0 0,.slice none 0 0,.slice none 0 0] [(0,1),(1,1),(2,1),(3,1)] (.one Z .t Zaf kr (.one Z .t Zaf kr .nil))) r2 qz (qf (oH [.slice none 0 0,.slice none 0 0,.slice none 0 0,.slice none 0 0] 102) trivial qz (qS 4 102 r2 r1 qZ))))))) V DA Jr fun τ O=>?_))
 have O:=X6
 generalize τ 3=v3 at O
 replace O:=O.turn 102 Z (r':=RS.pt (.val v3) 43 [.pv (.sl rTx []),.pv (.sl rTx [(⟨1,true,[⟨false,5,0,0⟩]⟩:TxD)]),.pv (.sl Zp []),.pv (.sl Zp [⟨5,[1]⟩])]) (ZuS Z Z ⟨Zay.nilSl,Zay.refl,Zay.nilSl,Zay.refl,tv⟩)
 obtain ⟨F,O⟩:=O.nM DA Jr
 refine Za (Ya (rZ O (qR rr (qe 4 102 r1 r1 (qf (o_callG1 61 (ZiP b1 sl1 Zaz.zero ⟨⟨by decide,by decide,by decide,by decide,by decide,by decide⟩,by decide,by decide,by decide,by decide⟩ lxs2) func23 Z kr (Args.two .t (.pagg .t))) r2 r1 (qO rr qZ)))) V [4,3,2,1,0] Jr fun O=>Ya ?_))
 refine rZ O (qR rr (qe 4 102 r1 r1 (qf (o_callG1 61 (ZiP b1 sl2 ZtR ⟨⟨by decide,by decide,by decide,by decide,by decide,by decide⟩,by decide,by decide,by decide,by decide⟩ lxs3) func23 Z kr (Args.two .t (.pagg .t))) r2 r1 (qO rr qZ)))) V [5,4,3,2,1,0] Jr fun O=>Ya ?_
 refine rZ O (qR rr (qf (o_callG1 61 (ZiH b1 sl3 ZtR ⟨by decide,by decide,by decide,by decide,by decide,by decide⟩) func21 Z kr (Args.one .t)) r1 r1 (qR rr (qf (o_extract .t Z) r1 qz (qf (o_extract .t Z) r1 qz (qO rr (qO rr qZ))))))) V [7,6,5,4,3,2,1,0] Jr fun O=>Ya ?_
 refine rZ O (qR rr (qf (o_callG1 61 (Zop b1 (A:=(⟨(⟨[⟨1,0⟩],[⟨5,0⟩],3⟩:RtA),[(0,(⟨[⟨1,0⟩],[⟨5,0⟩],3⟩:RtA))],1,[(⟨1,true,[⟨false,5,0,0⟩]⟩:TxD)],[[1]]⟩:StA)) (w:=6) We Zty ⟨by decide,by decide,by decide,by decide,by decide,by decide⟩) func15 Z kr (Args.one .t)) r1 r1 (qO rr qZ))) V [8,7,6,5,4,3,2,1,0] Jr fun O=>Ya ?_
 refine rZ O (qR rr (qg 0 101 r1 r1 (qa 101 r1 r1 (qg 1 101 r1 r1 (qa 101 r1 r1 (qf (oB [(0,.tmp 53),(2,.tmp 55)] [.slice none 0 0,.slice none 0 0,.slice none 0 0,.slice none 0 0] [(0,1),(1,1),(2,1),(3,1)] (.one Z .t Zaf kr (.one Z .t Zaf kr .nil))) r2 qz (qf (o_callG1 61 (ZiP b1 sl4 Zty ⟨⟨by decide,by decide,by decide,by decide,by decide,by decide⟩,by decide,by decide,by decide,by decide⟩ lxs4) func23 Z kr (Args.two .t (.conv (.pagg .t) (Ent.paggLe (l:=[.sl rTx [(⟨1,true,[⟨false,5,0,0⟩]⟩:TxD)],.is (.slice none 0 0),.sl Zp [⟨5,[1]⟩],.is (.slice none 0 0)]) (l':=ZC (⟨[(⟨1,true,[⟨false,5,0,0⟩]⟩:TxD)],[],[⟨5,[1]⟩],[]⟩:ZK)) ⟨Zay.refl,Zay.nilSl,Zay.refl,Zay.nilSl,tv⟩)))) r2 r1 (qO rr qZ)))))))) V [9,8,7,6,5,4,3,2,1,0] Jr fun O=>Ya ?_
 refine rZ O (qR rr (qf (o_callG1 61 (Zie b1 (A:=(⟨(⟨[],[],0⟩:RtA),[(0,(⟨[⟨1,0⟩],[⟨5,0⟩],3⟩:RtA))],1,[(⟨1,true,[⟨false,5,0,0⟩]⟩:TxD)],[[1]]⟩:StA)) (g:=(⟨[],[]⟩:Zw)) Z Ztq ⟨by decide,by decide,by decide,by decide,by decide,by decide⟩) func14 Z kr (Args.one .t)) r1 r1 (qf (oB [] [.slice none 0 0,.slice none 0 0] [(0,1),(1,1)] .nil) trivial qz (qf (oP (ZfH (⟨[],[]⟩:Zw) (⟨[],[]⟩:Zw)) func13 (Args.two .t (.conv (.pagg .t) (Ent.paggLe (l:=[.is (.slice none 0 0),.is (.slice none 0 0)]) (l':=Zi (⟨[],[]⟩:Zw)) ⟨Zay.nilSl,Zay.nilSl,tv⟩)))) r2 qz (qO rr qZ))))) V [10,9,8,7,6,5,4,3,2,1,0] Jr fun O=>Ya ?_
 refine rZ O (qR rr (qf (o_callG1 61 (ZiG b1 sl5 Ztq ⟨by decide,by decide,by decide,by decide,by decide,by decide⟩) func25 Z kr (Args.two .t qi)) r1 r1 (qR rr (qf (o_callG1 61 (ZiG b1 sl6 Ztq ⟨by decide,by decide,by decide,by decide,by decide,by decide⟩) func25 Z kr (Args.two .t qi)) r1 r1 (qR rr (qf (o_callG1 61 (Zir b1 sl7 Zty ⟨by decide,by decide,by decide,by decide,by decide,by decide⟩) func26 Z kr (Args.two .t qi)) r1 r1 (qR rr (qf (o_callG1 61 (Zir b1 sl8 ZtK ⟨by decide,by decide,by decide,by decide,by decide,by decide⟩) func26 Z kr (Args.two .t qi)) r1 r1 (qO rr (qO rr (qO rr (qO rr qZ)))))))))))) V [14,13,12,11,10,9,8,7,6,5,4,3,2,1,0] Jr fun O=>Ya ?_
 refine rZ O (qR rr (qf (o_callG1 61 (ZiH b1 sl9 ZtK ⟨by decide,by decide,by decide,by decide,by decide,by decide⟩) func21 Z kr (Args.one .t)) r1 r1 (qR rr (qf (o_extract .t Z) r1 qz (qf (o_extract .t Z) r1 qz (qO rr (qO rr qZ))))))) V [16,15,14,13,12,11,10,9,8,7,6,5,4,3,2,1,0] Jr fun O=>Ya ?_
 refine rS O (qR rr (qf (o_callG1 61 (Zsa b1 (A:=(⟨(⟨[⟨1,0⟩],[⟨5,0⟩],3⟩:RtA),[(1,(⟨[⟨1,0⟩],[⟨5,0⟩],3⟩:RtA))],2,[(⟨1,true,[⟨false,5,0,0⟩]⟩:TxD)],[[1]]⟩:StA)) (id:=1) (t:=(⟨1,true,[⟨false,5,0,0⟩]⟩:TxD)) (w:=true) Z Zte ⟨by decide,by decide,by decide,by decide,by decide,by decide⟩) func11 Z kr (Args.two .t qi)) r1 r1 (qR rr (qf (o_extract .t Z) r1 qz (qf (o_extract .t Z) r1 qz (qf (oH [.int .i64 0,.bool false,.slice none 0 0] 103) trivial qz (qf (oA 3 103 .same (.conv .t .agg)) r2 r1 (qO rr qZ)))))))) V [18,17,16,15,14,13,12,11,10,9,8,7,6,5,4,3,2,1,0] G4 fun τ O=>?_
 have O:=XD
 generalize τ 17=v17 at O
 refine Za (Ya (rZ O (qC qZ) V [19,18,17,16,15,14,13,12,11,10,9,8,7,6,5,4,3,2,1,0] G4 fun O=>Ya ?_))
 refine rZ O (qR rr (qf (oP (Zom) func21 (Args.one .t)) r1 qz (qR rr (qf (o_extract .t Z) r1 qz (qf (o_extract .t Z) r1 qz (qO rr (qO rr qZ))))))) V [21,19,18,17,16,15,14,13,12,11,10,9,8,7,6,5,4,3,2,1,0] G4 fun O=>Ya ?_
 refine Zr O (qR rr (qf (o_eql .t qi) r1 qz (qR rr (Zm.cons (Z9.run Z Z (KL) (ZJ .t Wd)) r2 qz (Zm.cons (Z9.run Z Z (KL) (o_eql .t qi)) r2 qz (qf (ZF .t (.conv .t (Ent.sure KL))) r2 qz (qR rr (Zm.cons (Z9.run Z Z (KL) (ZJ .t Wd)) r2 qz (Zm.cons (Z9.run Z Z (KL) (o_eql .t qi)) r2 qz (qf (ZF .t (.conv .t (Ent.sure KL))) r2 qz (qR rr (Zm.cons (Z9.run Z Z (KL) (ZJ .t Wd)) r2 qz (Zm.cons (Z9.run Z Z (KL) (o_eql .t qi)) r2 qz (qf (ZF .t (.conv .t (Ent.sure KL))) r2 qz (qR rr (Zm.cons (Z9.run Z Z (KL) (ZJ .t Wd)) r2 qz (Zm.cons (Z9.run Z Z (KL) (o_eql .t qi)) r2 qz (qf (ZF .t (.conv .t (Ent.sure KL))) r2 qz (qR rr (Zm.cons (Z9.run Z Z (KL) (ZJ .t Wd)) r2 qz (Zm.cons (Z9.run Z Z (KL) (o_eql .t qi)) r2 qz (qf (ZF .t (.conv .t (Ent.sure KL))) r2 qz (qR rr (Zm.cons (Z9.run Z Z (KL) (ZJ .t Wd)) r2 qz (qf (ZF .t (.conv .t (Ent.sure KL))) r2 qz (qR rr (Zm.cons (Z9.run Z Z (KL) (ZJ .t Wd)) r2 qz (Zm.cons (Z9.run Z Z (KL) (o_eql .t qi)) r2 qz (qf (ZF .t (.conv .t (Ent.sure KL))) r2 qz (qR rr (Zm.cons (Z9.run Z Z (KL) (ZJ .t Wd)) r2 qz (Zm.cons (Z9.run Z Z (KL) (o_eql .t qi)) r2 qz (qf (ZF .t (.conv .t (Ent.sure KL))) r2 qz (qR rr (Zm.cons (Z9.run Z Z (KL) (ZJ .t Wd)) r2 qz (Zm.cons (Z9.run Z Z (KL) (o_eql .t qi)) r2 qz (qf (ZF .t (.conv .t (Ent.sure KL))) r2 qz (qR rr (Zm.cons (Z9.run Z Z (KL) (ZJ .t Wd)) r2 qz (Zm.cons (Z9.run Z Z (KL) (o_eql .t qi)) r2 qz (qf (ZF .t (.conv .t (Ent.sure KL))) r2 qz (qR rr (Zm.cons (Z9.run Z Z (KL) (ZJ .t Wd)) r2 qz (Zm.cons (Z9.run Z Z (KL) (o_eql .t qi)) r2 qz (qf (ZF .t (.conv .t (Ent.sure KL))) r2 qz (qR rr (Zm.cons (Z9.run Z Z (KL) (ZJ .t Wd)) r2 qz (Zm.cons (Z9.run Z Z (KL) (o_eql .t qi)) r2 qz (qf (ZF .t (.conv .t (Ent.sure KL))) r2 qz (qR rr (Zm.cons (Z9.run Z Z (KL) (ZJ .t Wd)) r2 qz (qf (ZF .t (.conv .t (Ent.sure KL))) r2 qz (qR rr (Zm.cons (Z9.run Z Z (KL) (oF 2 103 .is)) r2 r1 (Zm.cons (Z9.run Z Z (KL) (oL false 1 103 .adr)) r2 r1 (Zm.cons (Z9.run Z Z (KL) (Zbp YbU .t)) r2 qz (Zm.cons (Z9.run Z Z (KL) (o_eql .t qi)) r2 qz (qf (ZF .t (.conv .t (Ent.sure KL))) r2 qz (qR rr (Zm.cons (Z9.run Z Z (KL) (ZJ .t Wd)) r2 qz (Zm.cons (Z9.run Z Z (KL) (o_callG1 61 (Zlj b1 (A:=(⟨(⟨[⟨1,0⟩],[⟨5,0⟩],3⟩:RtA),[(1,(⟨[⟨1,0⟩],[⟨5,0⟩],3⟩:RtA))],2,[(⟨1,true,[⟨false,5,0,0⟩]⟩:TxD)],[[1]]⟩:StA)) (key:=5) (l:=[1]) Z Zte ⟨by decide,by decide,by decide,by decide,by decide,by decide⟩) func19 Z kr (Args.two .t qi))) r2 r1 (Zm.cons (Z9.run Z Z (KL) (o_buildSliceE (sz:=1) (zs:=[.int .i64 0]) (r:=[(0,_)]) (l:=[_]) YbT kr kr kr kr Z Z (.one Z qi one_int kr .nil) Z)) r1 qz (Zm.cons (Z9.run Z Z (KL) (oP (ZfF [1] [1]) func18 (Args.two .t (.conv .t (Ent.arrSl (R:=Zo) (l:=[1]) Z))))) r3 qz (qf (ZF .t (.conv .t (Ent.sure KL))) r2 qz (qR rr (Zm.cons (Z9.run Z Z (KL) (ZJ .t Wd)) r2 qz (Zm.cons (Z9.run Z Z (KL) (o_callG1 61 (Zie b1 (A:=(⟨(⟨[⟨1,0⟩],[⟨5,0⟩],3⟩:RtA),[(1,(⟨[⟨1,0⟩],[⟨5,0⟩],3⟩:RtA))],2,[(⟨1,true,[⟨false,5,0,0⟩]⟩:TxD)],[[1]]⟩:StA)) (g:=(⟨[(⟨1,true,[⟨false,5,0,0⟩]⟩:TxD)],[⟨5,[1]⟩]⟩:Zw)) Z Zte ⟨by decide,by decide,by decide,by decide,by decide,by decide⟩) func14 Z kr (Args.one .t))) r2 r1 (Zm.cons (Z9.run Z Z (KL) (oL true 2 101 .is)) r2 r1 (Zm.cons (Z9.run Z Z (KL) (oP (ZfH (⟨[(⟨1,true,[⟨false,5,0,0⟩]⟩:TxD)],[⟨5,[1]⟩]⟩:Zw) (⟨[(⟨1,true,[⟨false,5,0,0⟩]⟩:TxD)],[⟨5,[1]⟩]⟩:Zw)) func13 (Args.two .t (.pagg .t)))) r3 qz (qf (ZF .t (.conv .t (Ent.sure KL))) r2 qz (qR rr (Zm.cons (Z9.run Z Z (KL) (ZJ .t Wd)) r2 qz (Zm.cons (Z9.run Z Z (KL) (o_eql .t qi)) r2 qz (qf (ZF .t (.conv .t (Ent.sure KL))) r2 qz (qR rr (Zm.cons (Z9.run Z Z (KL) (ZJ .t Wd)) r2 qz (Zm.cons (Z9.run Z Z (KL) (oL true 4 102 .is)) r2 r1 (Zm.cons (Z9.run Z Z (KL) (oP (ZrR (⟨[],[(⟨1,true,[⟨false,5,0,0⟩]⟩:TxD)],[],[⟨5,[1]⟩]⟩:ZK)) func23 (Args.two .t (.pagg .t)))) r3 qz (Zm.cons (Z9.run Z Z (KL) (o_eql .t qi)) r2 qz (qf (ZF .t (.conv .t (Ent.sure KL))) r2 qz (qR rr (Zm.cons (Z9.run Z Z (KL) (ZJ .t Wd)) r2 qz (Zm.cons (Z9.run Z Z (KL) (oP (ZnI 0) func25 (Args.two .t qi))) r2 qz (Zm.cons (Z9.run Z Z (KL) (o_eql .t qi)) r2 qz (qf (ZF .t (.conv .t (Ent.sure KL))) r2 qz (qR rr (Zm.cons (Z9.run Z Z (KL) (ZJ .t Wd)) r2 qz (Zm.cons (Z9.run Z Z (KL) (oP (Zn2) func15 (Args.one .t))) r2 qz (Zm.cons (Z9.run Z Z (KL) (o_eql .t qi)) r2 qz (qf (ZF .t (.conv .t (Ent.sure KL))) r2 qz (qR rr (Zm.cons (Z9.run Z Z (KL) (ZJ .t Wd)) r2 qz (Zm.cons (Z9.run Z Z (KL) (oP (ZnZ) func14 (Args.one .t))) r2 qz (Zm.cons (Z9.run Z Z (KL) (ZeL (ft:=27) (off:=0) kr kr .t Z)) r2 qz (Zm.cons (Z9.run Z Z (KL) (Zbp YbR .t)) r2 qz (Zm.cons (Z9.run Z Z (KL) (o_eql .t qi)) r2 qz (qf (ZF .t (.conv .t (Ent.sure KL))) r2 qz (qO rr qZ)))))))))))))))))))))))))))))))))))))))))))))))))))))))))))))))))))))))))))))))))))))))))))))))))) V [0] G4 Z Z fun a w F O=>?_
 try dsimp only [List.map,Zc,xL,xM,Nat.reduceAdd,xD,xE,xT,xU,xC,xN,zCF,ldSF,rRt,rSq,Zt,rTx,Zp,Zi,Zo,rOp,ZC] at O
 refine Za (Yh (Zx hfr O Z Z Z (.bool KL)))
theorem ZkV (l:List ZeO) (id key:Int):FnP prog 3 [.sl Zbd l,.int .i64 id,.int .i64 key] (.bool true):=by
 refine FnP.mk func3 Z ntmps3 Z fun B a w F V hfr O=>?_
 have hll:=Sat.lenSl O (i:=0) rfl
 refine Ya (rZ O qB V JG [0] fun O=>Ya ?_)
 replace O:=O.fresh 61 rfl
 obtain ⟨F,O⟩:=O.nM JG Xab
 refine rS O (qf (Zdq 61 (Zpg) func7 Z kr Args.nil PV.ptr_one) qz r1 (qO rr qZ)) V Gg Xab fun τ O=>?_
 try dsimp only [RS.sub,SF.sub,CF.sub,csub,Anc.sub,List.map,rRt,rSq,Zt,rTx,Zp,Zi,Zo,rOp,Zbk,Zaw,ZC,Zbd,rEd] at O
 generalize τ 17=v17 at O
 obtain ⟨_,_,_,ho⟩:=O.obGet 61 rfl
 obtain ⟨b1,rfl⟩:=Zip ho
 clear ho
 replace O:=O.turn 61 Z (r':=RS.hp (ZO (.pointer (some ⟨b1,0,none⟩)) Zg3)) (fun _ _ _ _ h=>h)
 obtain ⟨F,O⟩:=O.nM Gg Xab
 refine Za (Ya (Ya (rZ O (qR rr (qf (Zab _ YbW Z .t) r1 qz (qR rr (qm Z Z Z Z (qk Z (fun h=>oP (Zpa l) func8 (Args.one (.w h))) r2 qz (qk Z (fun h=>ZW (.w h)) r2 qz (qf (ZaB .t .t) r2 qz qZ))))))) V [24,7,6,2,1,0] Xab fun O=>?_)))
 refine Zb O Z (fun hc0=>?_) (fun hc0=>?_)
 ·refine Ya (rZ O (qR rr (qf (ZgZ _ YbW Z .t) r1 qz (qR rr (qk Z (fun h=>oP (Zj6) func9 Args.nil) r1 qz (qf (ZF .t .t) r2 qz (qO rr qZ)))))) V Gg Xab fun O=>(Yh (Zd ?_)))
  refine Zx hfr O Z Z Z (.bool (by first | rfl | simp))
 have hL:Zhl l:=by have h9:=hc0;simp at h9;exact h9
 have hll9:=hL.1
 refine Yd (Za (Ya (rS O (qf (oH [.slice none 0 0,.slice none 0 0,.slice none 0 0,.int .i64 0] 101) trivial qz qZ) V QX GJ fun τ O=>?_)))
 have O:=XI
 generalize τ 8=v8 at O
 replace O:=O.turn 101 Z (r':=RS.pt (.val v8) 33 [.pv (.sl rTx []),.pv (.sl Zp []),.pv (.sl Zaw []),.pv (.int .i64 0)]) (ZuS Z Z ⟨Zay.nilSl,Zay.nilSl,Zay.nilSl,Zay.refl,tv⟩)
 obtain ⟨F,O⟩:=O.nM QX GJ
 refine Za (Ya (Ya (rZ O (qR rr (qu underlying22 r1 (qJ qZ))) V DP GJ fun O=>Ye ?_)))
 refine Zh (σ:=(Nat)×(StA)) [1,2,6,7,8,30,31] [0] (fun s=>[(32,.pv (.int .i64 (s.1:Int)))]) (fun s=>[(61,RS.hp (ZO (.pointer (some ⟨b1,0,none⟩)) s.2)),(101,.pt (.val v8) 33 [.pv (.sl rTx (hiA s.2).txs),.pv (.sl Zp (hiA s.2).orders),.pv (.sl Zaw (Za5 s.2).l),.pv (.int .i64 (StA.next s.2))])]) (fun s=>s.1≤l.length∧(ZbF s.2 s.1)) (fun s=>l.length - s.1) ((0),(Zg3)) O ⟨rfl,rfl,rfl,rfl,rfl,rfl,rfl,rfl,tv⟩ ⟨rfl,rfl,rfl,tv⟩ ⟨Yo _,ZbF.start⟩ ?_
 clear O;intro s a w F hC O
 obtain ⟨i,A9⟩:=s
 have hC:=X3
 obtain ⟨F,O⟩:=O.nM DP GJ
 have O:=X2
 obtain ⟨hi,hq⟩:=hC
 refine Ya (rZ O (qL r2) V [33,32,31,30,8,7,6,2,1] GJ fun O=>Ya ?_)
 refine Zb O Z (fun hc1=>?_) (fun hc1=>?_)
 ·have hil:i<l.length:=WH
  refine Yd (Za (Ya (Ye (Ya (rS O (qy 13 underlying22 r2 (qf (oR true 13 .t) r1 qz (qf (oH [.int .i64 0,.int .i64 0,.int .i64 0,.bool false,.slice none 0 0,.int .i64 0,.slice none 0 0,.int .i64 0,.slice none 0 0,.slice none 0 0,.slice none 0 0,.slice none 0 0,.int .i64 0] 102) trivial qz (qS 13 102 r2 r1 qZ)))) V [32,31,30,10,8,7,6,2,1] Jr fun τ O=>?_)))))
  have O:=Xe
  generalize τ 10=v10 at O
  try simp only [Yf] at O
  refine Za (Ya (rS O (qR rr (qe 4 101 r1 r1 (qe 13 102 r1 r1 (qf (o_callG1 61 (ZtP b1 A9 i (Nn l i) hq ow (hL.2 _ (ZP hil))) func10 Z kr (Args.three .t (.pagg .t) (.pagg .t))) r3 r1 (qR rr (qf (o_extract .t Z) r1 qz (qf (o_extract .t Z) r1 qz (qf (oH [.slice none 0 0,.slice none 0 0,.slice none 0 0,.int .i64 0] 103) trivial qz (qf (oA 4 103 .same (.conv .t .agg)) r2 r1 (qO rr qZ)))))))))) V [32,31,30,12,11,8,7,6,2,1] G4 fun τ O=>?_))
  have O:=Xe
  generalize τ 11=v11 at O
  obtain ⟨B9,hBe⟩:∃ z,z=ZbO A9 (Nn l i):=⟨_,rfl⟩
  have hB9:=hq.step ow (hL.2 _ (ZP hil))
  rw [← hBe] at O hB9
  have hfB:=hB9.fitS ow
  refine Za (Ya (rZ O (qe 4 103 r1 r1 (qs 4 101 r2 r1 qZ)) V [32,31,30,12,8,7,6,2,1] G4 fun O=>Ya ?_))
  refine rS O (qR rr (qR rr (qf (o_callG1 61 (ZtA b1 B9 hB9.ok hfB id) func11 Z kr (Args.two .t .t)) r2 r1 (qR rr (qf (o_extract .t Z) r1 qz (qf (o_extract .t Z) r1 qz (qf (oH [.int .i64 0,.bool false,.slice none 0 0] 104) trivial qz (qf (oA 3 104 .same (.conv .t .agg)) r2 r1 (qO rr qZ))))))))) V [32,31,30,14,13,12,8,7,6,2,1] [104,103,102,101,61,0] fun τ O=>?_
  try dsimp only [RS.sub,SF.sub,CF.sub,csub,Anc.sub,List.map,Zc,xL,xM,Nat.reduceAdd,xD,xE,xT,xU,xC,xN,zCF,rRt,rSq,Zt,rTx,Zp,Zi,Zo,rOp,Zbk,Zaw,ZC,Zbd,rEd] at O
  generalize τ 13=v13 at O
  refine Za (Ya (rS O (qg 0 101 r1 r1 (qf (oL true 2 101 .adr) r1 r1 (qR rr (qf (oP (Zc0 (hiA B9) id (hB9.fit.small ow).1) func12 (Args.two (.pagg .t) .t)) r2 qz (qR rr (qf (o_extract .t Z) r1 qz (qf (o_extract .t Z) r1 qz (qf (oH [.int .i64 0,.bool false,.slice none 0 0] 105) trivial qz (qf (oA 3 105 .same (.conv .t .agg)) r2 r1 (qO rr qZ)))))))))) V [32,31,30,16,15,14,13,12,8,7,6,2,1] GL fun τ O=>?_))
  have O:=Xe
  generalize τ 15=v15 at O
  refine Za (Ya (Zr O (qR rr (qf (ZW .t) r1 qz (qR rr (Zm.cons (Z9.run Z Z (W5) (ZJ .t Wd)) r2 qz (Zm.cons (Z9.run Z Z (W5) (o_callG1 61 (Zjg b1 B9 hB9.ok hfB) func14 Z kr (Args.one .t))) r2 r1 (Zm.cons (Z9.run Z Z (W5) (oF 0 101 .is)) r2 r1 (Zm.cons (Z9.run Z Z (W5) (oL true 2 101 .adr)) r2 r1 (Zm.cons (Z9.run Z Z (W5) (oP (ZfH (hiA B9) (hiA B9)) func13 (Args.two .t (.pagg .t)))) r3 qz (Zm.cons (Z9.run Z Z (W5) (ZW .t)) r2 qz (qf (ZaB .t (.conv .t (Ent.sure W5))) r2 qz (qR rr (Zm.cons (Z9.run Z Z (W5) (ZJ .t Wd)) r2 qz (Zm.cons (Z9.run Z Z (W5) (o_callG1 61 (ZmY b1 B9 hB9.ok hfB) func15 Z kr (Args.one .t))) r2 r1 (Zm.cons (Z9.run Z Z (W5) (oL true 4 101 .is)) r2 r1 (Zm.cons (Z9.run Z Z (W5) (oP (ZoW hB9.ok (hB9.dsm ow)) func16 (Args.one (.pagg .t)))) r2 qz (Zm.cons (Z9.run Z Z (W5) (o_neq .t .t)) r3 qz (qf (ZaB .t (.conv .t (Ent.sure W5))) r2 qz (qR rr (Zm.cons (Z9.run Z Z (W5) (ZJ .t Wd)) r2 qz (Zm.cons (Z9.run Z Z (W5) (ZJ .t Wd)) r2 qz (Zm.cons (Z9.run Z Z (W5) (Zut underlying4 .t .t)) r3 qz (qf (ZaB .t (.conv .t (Ent.sure W5))) r2 qz (qR rr (Zm.cons (Z9.run Z Z (W5) (oL true 3 104 .is)) r2 r1 (Zm.cons (Z9.run Z Z (W5) (oL true 3 105 .is)) r2 r1 (Zm.cons (Z9.run Z Z (W5) (oP (ZmE ((ZaV (hiA B9).txs id).getD zeroT) ((ZaV (hiA B9).txs id).getD zeroT)) func17 (Args.two (.pagg .t) (.pagg .t)))) r3 qz (Zm.cons (Z9.run Z Z (W5) (ZW .t)) r2 qz (qf (ZaB .t (.conv .t (Ent.sure W5))) r2 qz (qR rr (Zm.cons (Z9.run Z Z (W5) (ZJ .t Wd)) r2 qz (Zm.cons (Z9.run Z Z (W5) (ZJ .t Wd)) r2 qz (Zm.cons (Z9.run Z Z (W5) (o_callG1 61 (Zog b1 B9 hB9.ok hfB key) func19 Z kr (Args.two .t .t))) r3 r1 (Zm.cons (Z9.run Z Z (W5) (oF 0 101 .is)) r2 r1 (Zm.cons (Z9.run Z Z (W5) (oL true 2 101 .adr)) r2 r1 (Zm.cons (Z9.run Z Z (W5) (ZJ .t Wd)) r2 qz (Zm.cons (Z9.run Z Z (W5) (oP (Zeb (hiA B9) key) func20 (Args.two (.pagg .t) .t))) r3 qz (Zm.cons (Z9.run Z Z (W5) (oP (ZfF (getO (hiA B9).orders key) (getO (hiA B9).orders key)) func18 (Args.two .t .t))) r3 qz (Zm.cons (Z9.run Z Z (W5) (ZW .t)) r2 qz (qf (ZaB .t (.conv .t (Ent.sure W5))) r2 qz qZ))))))))))))))))))))))))))))))))))))))) V [95,32,31,30,8,7,6,2,1] GL Z Z fun a w F O=>?_))
  try dsimp only [List.map,xD,xE,xT,xU,ldSF,rRt,rSq,Zt,rTx,Zp,Zi,Zo,rOp,Zbk,Zaw,ZC,Zbd,rEd] at O
  refine Za (Zb O Z (fun hc2=>?_) (fun hc2=>?_))
  ·simp at hc2
  refine Yd (Zf (Za (rZ O (qp r1 (qR rr qZ)) V DP GL fun O=>?_)))
  replace O:=O.eI 32 i
  obtain ⟨F,O⟩:=O.nM [31,30,8,7,6,2,1,32] [0,101,61]
  exact ⟨((i+1),(B9)),F,⟨ow,hB9⟩,O,ow⟩
 have hil:i=l.length:=WH
 refine Ym (Ze (Ze (Zk (Za (Ya (rZ O (qf (oP (Zj6) func9 Args.nil) trivial qz (qO rr qZ)) V [6] GJ fun O=>Yh ?_))))))
 refine Zx hfr O Z Z Z (.bool (by first | rfl | simp))
end Go.Proofs.YtfecljadegkmdaaGreat
