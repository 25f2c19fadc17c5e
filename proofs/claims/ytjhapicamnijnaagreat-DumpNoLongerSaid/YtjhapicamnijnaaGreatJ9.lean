/- Texts put together. No condition beyond those that each theorem says. -/
import Derived.Test.YtjhapicamnijnaaGreatJ8
import Derived.Test.YtjhapicamnijnaaGreatJ4
import Derived.Test.YtjhapicamnijnaaGreatJ6
import Derived.Test.YtjhapicamnijnaaGreatJ7
namespace Go.Proofs.YtjhapicamnijnaaGreat
open Go Go.Gm
set_option linter.unusedVariables false
set_option linter.unusedSimpArgs false
set_option maxHeartbeats 4000000
set_option maxRecDepth 8000
theorem plA:ZdD 12 (⟨[(⟨1,true,[⟨false,5,0,0⟩]⟩:TxD)],[⟨5,[1]⟩]⟩:HistD):=⟨by decide,by decide,by decide⟩
theorem plB:ZdD 12 (⟨[(⟨2,true,[⟨false,5,0,0⟩]⟩:TxD)],[⟨5,[2]⟩]⟩:HistD):=⟨by decide,by decide,by decide⟩
theorem plX:ZdD 12 (⟨[(⟨1,true,[⟨false,5,0,0⟩]⟩:TxD)],[]⟩:HistD):=⟨by decide,by decide,by decide⟩
theorem plc:Zb4 (⟨[(⟨1,true,[⟨false,5,0,0⟩]⟩:TxD)],[⟨5,[1]⟩]⟩:HistD) (⟨[(⟨2,true,[⟨false,5,0,0⟩]⟩:TxD)],[⟨5,[2]⟩]⟩:HistD)=(([ZeD (⟨1,true,[⟨false,5,0,0⟩]⟩:TxD),ZbJ (⟨2,true,[⟨false,5,0,0⟩]⟩:TxD)]:List CmdD),0):=by decide +kernel
theorem plm:playC (⟨[(⟨1,true,[⟨false,5,0,0⟩]⟩:TxD)],[⟨5,[1]⟩]⟩:HistD) ([ZeD (⟨1,true,[⟨false,5,0,0⟩]⟩:TxD),ZbJ (⟨2,true,[⟨false,5,0,0⟩]⟩:TxD)]:List CmdD) 0=((⟨[(⟨2,true,[⟨false,5,0,0⟩]⟩:TxD)],[⟨5,[2]⟩]⟩:HistD),2,0):=by decide +kernel
theorem plx:Zb4 (⟨[(⟨1,true,[⟨false,5,0,0⟩]⟩:TxD)],[⟨5,[1]⟩]⟩:HistD) (⟨[(⟨1,true,[⟨false,5,0,0⟩]⟩:TxD)],[]⟩:HistD)=([],5):=by decide +kernel
theorem pls:Zb4 (⟨[(⟨1,true,[⟨false,5,0,0⟩]⟩:TxD)],[⟨5,[1]⟩]⟩:HistD) (⟨[(⟨1,true,[⟨false,5,0,0⟩]⟩:TxD)],[⟨5,[1]⟩]⟩:HistD)=([],0):=by decide +kernel
theorem plz:playC (⟨[(⟨1,true,[⟨false,5,0,0⟩]⟩:TxD)],[⟨5,[1]⟩]⟩:HistD) ([({zeroC 3 with key:=0,id:=1} : CmdD),({zeroC 3 with key:=0,id:=1} : CmdD)]:List CmdD) 0=(zeroH,1,3):=by decide +kernel
theorem Zm3  : FnP Tryz.prog 9 [] (.bool true):=by
 refine FnP.mk Tryz.func9 rfl Tryz.ntmps9 rfl ?_
 intro B a w F hB hfr hS
 refine wp_seq ?_
 refine Za hS qB hB [0] [0] rfl rfl fun a w F hS=>Zb (wp_seq ?_)
 refine Zc hS (qf (oB [(1,_)] [.bool false,.int .i64 0,.int .i64 0,.int .i64 0] [(0,1),(1,1),(2,1),(3,1)] (.one rfl qi one_int (by kernel_rfl) .nil)) trivial qz (qf (Zh (sz:=4) (zs:=[.bool false,.int .i64 0,.int .i64 0,.int .i64 0]) (r:=[(0,.tmp 15)]) (l:=[_,_,_,_]) Tryz.underlying38 (by kernel_rfl) (by kernel_rfl) (by kernel_rfl) (by kernel_rfl) rfl rfl (.agg rfl .t (by kernel_rfl) (by kernel_rfl) .nil) rfl) r1 qz (qf (oB [(0,_),(1,_),(2,.tmp 16)] [.int .i64 0,.bool false,.slice none 0 0] [(0,1),(1,1),(2,1)] (.one rfl qi one_int (by kernel_rfl) (.one rfl .cb Za5 (by kernel_rfl) (.one rfl .t Zbd (by kernel_rfl) .nil)))) r1 qz (qf (Zh (sz:=3) (zs:=[.int .i64 0,.bool false,.slice none 0 0]) (r:=[(0,.tmp 17)]) (l:=[_,_,_]) Tryz.underlying22 (by kernel_rfl) (by kernel_rfl) (by kernel_rfl) (by kernel_rfl) rfl rfl (.agg rfl .t (by kernel_rfl) (by kernel_rfl) .nil) rfl) r1 qz (qf (Zh (sz:=1) (zs:=[.int .i64 0]) (r:=[(0,_)]) (l:=[_]) Tryz.underlying41 (by kernel_rfl) (by kernel_rfl) (by kernel_rfl) (by kernel_rfl) rfl rfl (.one rfl qi one_int (by kernel_rfl) .nil) rfl) trivial qz (qf (oB [(0,_),(1,.tmp 19)] [.int .i64 0,.slice none 0 0] [(0,1),(1,1)] (.one rfl qi one_int (by kernel_rfl) (.one rfl .t Zbd (by kernel_rfl) .nil))) r1 qz (qf (Zh (sz:=2) (zs:=[.int .i64 0,.slice none 0 0]) (r:=[(0,.tmp 20)]) (l:=[_,_]) Tryz.underlying23 (by kernel_rfl) (by kernel_rfl) (by kernel_rfl) (by kernel_rfl) rfl rfl (.agg rfl .t (by kernel_rfl) (by kernel_rfl) .nil) rfl) r1 qz (qf (oB [(0,.tmp 18),(1,.tmp 21)] [.slice none 0 0,.slice none 0 0] [(0,1),(1,1)] (.one rfl .t Zbd (by kernel_rfl) (.one rfl .t Zbd (by kernel_rfl) .nil))) r2 qz (qf (oH [.slice none 0 0,.slice none 0 0] 101) trivial qz (qS 2 101 r2 r1 qZ)))))))))) hB [1,0] [101,0] (fun _=>rfl) (fun _=>rfl) fun τ a w F hS=>?_
 try dsimp only [RS.sub,SF.sub,CF.sub,csub,Anc.sub,List.map,Zf,xL,xM,Nat.reduceAdd,xD,xE,xT,xU,xC,xN,zCF,Zk,rTx,Zs,ZG,rInt,rOp,rCmd,ZH,ZaJ,ZQ,ZA] at hS
 generalize τ 1=v1 at hS
 replace hS:=hS.turn 101 rfl (r':=.pt (.val v1) 25 [.pv (.sl rTx [(⟨1,true,[⟨false,5,0,0⟩]⟩:TxD)]),.pv (.sl Zs [⟨5,[1]⟩])]) (Zqr rfl rfl ⟨PVLe.arrSl (R:=rTx) (l':=[(⟨1,true,[⟨false,5,0,0⟩]⟩:TxD)]) rfl ⟨PVLe.refl,PVLe.refl,PVLe.arrSl (R:=rOp) (l':=[⟨false,5,0,0⟩]) rfl Zcp.refl,trivial⟩,PVLe.arrSl (R:=Zs) (l':=[⟨5,[1]⟩]) rfl ⟨PVLe.refl,PVLe.arrSl (R:=rInt) (l':=[1]) rfl Zcp.refl,trivial⟩,trivial⟩)
 obtain ⟨F,hS⟩:=hS.nm [1,0] [101,0] rfl rfl
 refine Zb (wp_seq ?_)
 refine Zc hS (qf (oB [(1,_)] [.bool false,.int .i64 0,.int .i64 0,.int .i64 0] [(0,1),(1,1),(2,1),(3,1)] (.one rfl qi one_int (by kernel_rfl) .nil)) trivial qz (qf (Zh (sz:=4) (zs:=[.bool false,.int .i64 0,.int .i64 0,.int .i64 0]) (r:=[(0,.tmp 23)]) (l:=[_,_,_,_]) Tryz.underlying38 (by kernel_rfl) (by kernel_rfl) (by kernel_rfl) (by kernel_rfl) rfl rfl (.agg rfl .t (by kernel_rfl) (by kernel_rfl) .nil) rfl) r1 qz (qf (oB [(0,_),(1,_),(2,.tmp 24)] [.int .i64 0,.bool false,.slice none 0 0] [(0,1),(1,1),(2,1)] (.one rfl qi one_int (by kernel_rfl) (.one rfl .cb Za5 (by kernel_rfl) (.one rfl .t Zbd (by kernel_rfl) .nil)))) r1 qz (qf (Zh (sz:=3) (zs:=[.int .i64 0,.bool false,.slice none 0 0]) (r:=[(0,.tmp 25)]) (l:=[_,_,_]) Tryz.underlying22 (by kernel_rfl) (by kernel_rfl) (by kernel_rfl) (by kernel_rfl) rfl rfl (.agg rfl .t (by kernel_rfl) (by kernel_rfl) .nil) rfl) r1 qz (qf (Zh (sz:=1) (zs:=[.int .i64 0]) (r:=[(0,_)]) (l:=[_]) Tryz.underlying41 (by kernel_rfl) (by kernel_rfl) (by kernel_rfl) (by kernel_rfl) rfl rfl (.one rfl qi one_int (by kernel_rfl) .nil) rfl) trivial qz (qf (oB [(0,_),(1,.tmp 27)] [.int .i64 0,.slice none 0 0] [(0,1),(1,1)] (.one rfl qi one_int (by kernel_rfl) (.one rfl .t Zbd (by kernel_rfl) .nil))) r1 qz (qf (Zh (sz:=2) (zs:=[.int .i64 0,.slice none 0 0]) (r:=[(0,.tmp 28)]) (l:=[_,_]) Tryz.underlying23 (by kernel_rfl) (by kernel_rfl) (by kernel_rfl) (by kernel_rfl) rfl rfl (.agg rfl .t (by kernel_rfl) (by kernel_rfl) .nil) rfl) r1 qz (qf (oB [(0,.tmp 26),(1,.tmp 29)] [.slice none 0 0,.slice none 0 0] [(0,1),(1,1)] (.one rfl .t Zbd (by kernel_rfl) (.one rfl .t Zbd (by kernel_rfl) .nil))) r2 qz (qf (oH [.slice none 0 0,.slice none 0 0] 102) trivial qz (qS 2 102 r2 r1 qZ)))))))))) hB [2,1,0] [102,101,0] (fun _=>rfl) (fun _=>rfl) fun τ a w F hS=>?_
 try dsimp only [RS.sub,SF.sub,CF.sub,csub,Anc.sub,List.map,Zf,xL,xM,Nat.reduceAdd,xD,xE,xT,xU,xC,xN,zCF,Zk,rTx,Zs,ZG,rInt,rOp,rCmd,ZH,ZaJ,ZQ,ZA] at hS
 generalize τ 2=v2 at hS
 replace hS:=hS.turn 102 rfl (r':=.pt (.val v2) 25 [.pv (.sl rTx [(⟨2,true,[⟨false,5,0,0⟩]⟩:TxD)]),.pv (.sl Zs [⟨5,[2]⟩])]) (Zqr rfl rfl ⟨PVLe.arrSl (R:=rTx) (l':=[(⟨2,true,[⟨false,5,0,0⟩]⟩:TxD)]) rfl ⟨PVLe.refl,PVLe.refl,PVLe.arrSl (R:=rOp) (l':=[⟨false,5,0,0⟩]) rfl Zcp.refl,trivial⟩,PVLe.arrSl (R:=Zs) (l':=[⟨5,[2]⟩]) rfl ⟨PVLe.refl,PVLe.arrSl (R:=rInt) (l':=[2]) rfl Zcp.refl,trivial⟩,trivial⟩)
 obtain ⟨F,hS⟩:=hS.nm [2,1,0] [102,101,0] rfl rfl
 refine Zb (wp_seq ?_)
 refine Za hS (qe 2 101 r1 r1 (qe 2 102 r1 r1 (qf (oP (ZbC (⟨[(⟨1,true,[⟨false,5,0,0⟩]⟩:TxD)],[⟨5,[1]⟩]⟩:HistD) (⟨[(⟨2,true,[⟨false,5,0,0⟩]⟩:TxD)],[⟨5,[2]⟩]⟩:HistD) 12 (by decide) plA plB) Tryz.func10 (Args.two (.pagg .t) (.pagg .t))) r2 qz (qM rfl rfl (qf (o_extract .t rfl) r1 qz (qf (o_extract .t rfl) r1 qz (qN rfl rfl (qN rfl rfl qZ)))))))) hB [4,3,2,1,0] [102,101,0] rfl rfl fun a w F hS=>?_
 rw [plc] at hS
 dsimp only at hS
 refine Zb (wp_seq ?_)
 refine Zc hS (qe 2 101 r1 r1 (qM rfl rfl (qf (oP (Zjj (⟨[(⟨1,true,[⟨false,5,0,0⟩]⟩:TxD)],[⟨5,[1]⟩]⟩:HistD) ([ZeD (⟨1,true,[⟨false,5,0,0⟩]⟩:TxD),ZbJ (⟨2,true,[⟨false,5,0,0⟩]⟩:TxD)]:List CmdD) 12 plA (by decide) (by decide)) Tryz.func12 (Args.two (.pagg .t) .t)) r2 qz (qM rfl rfl (qf (o_extract .t rfl) r1 qz (qf (o_extract .t rfl) r1 qz (qf (o_extract .t rfl) r1 qz (qf (oH [.slice none 0 0,.slice none 0 0] 103) trivial qz (qf (oA 2 103 .same (.conv .t .agg)) r2 r1 (qN rfl rfl (qN rfl rfl qZ))))))))))) hB [7,6,5,4,3,2,1,0] [103,102,101,0] (fun _=>rfl) (fun _=>rfl) fun τ a w F hS=>?_
 try dsimp only [RS.sub,SF.sub,CF.sub,csub,Anc.sub,List.map,Zf,xL,xM,Nat.reduceAdd,xD,xE,xT,xU,xC,xN,zCF,ldSF,Zk,rTx,Zs,ZG,rInt,rOp,rCmd,ZH,ZaJ,ZQ,ZA] at hS
 generalize τ 5=v5 at hS
 rw [plm] at hS
 dsimp only at hS
 refine Zb (wp_seq ?_)
 refine Za hS (qe 2 101 r1 r1 (qg 0 101 r1 r1 (qa 101 r1 r1 (qf (oB [(0,.tmp 47)] [.slice none 0 0,.slice none 0 0] [(0,1),(1,1)] (.one rfl .t one_sl (by kernel_rfl) .nil)) r1 qz (qf (oP (ZbC (⟨[(⟨1,true,[⟨false,5,0,0⟩]⟩:TxD)],[⟨5,[1]⟩]⟩:HistD) (⟨[(⟨1,true,[⟨false,5,0,0⟩]⟩:TxD)],[]⟩:HistD) 12 (by decide) plA plX) Tryz.func10 (Args.two (.pagg .t) (.conv (.pagg .t) (Ent.paggLe (l:=[.sl rTx [(⟨1,true,[⟨false,5,0,0⟩]⟩:TxD)],.is (.slice none 0 0)]) (l':=Zk (⟨[(⟨1,true,[⟨false,5,0,0⟩]⟩:TxD)],[]⟩:HistD)) ⟨PVLe.refl,PVLe.nilSl,trivial⟩)))) r2 qz (qM rfl rfl (qf (o_extract .t rfl) r1 qz (qf (o_extract .t rfl) r1 qz (qN rfl rfl (qN rfl rfl qZ)))))))))) hB [9,7,6,5,4,3,2,1,0] [103,102,101,0] rfl rfl fun a w F hS=>?_
 rw [plx] at hS
 dsimp only at hS
 refine Zb (wp_seq ?_)
 refine Za hS (qe 2 101 r1 r1 (qe 2 101 r1 r1 (qf (oP (ZbC (⟨[(⟨1,true,[⟨false,5,0,0⟩]⟩:TxD)],[⟨5,[1]⟩]⟩:HistD) (⟨[(⟨1,true,[⟨false,5,0,0⟩]⟩:TxD)],[⟨5,[1]⟩]⟩:HistD) 12 (by decide) plA plA) Tryz.func10 (Args.two (.pagg .t) (.pagg .t))) r2 qz (qM rfl rfl (qf (o_extract .t rfl) r1 qz (qf (o_extract .t rfl) r1 qz (qN rfl rfl (qN rfl rfl qZ)))))))) hB [11,10,9,7,6,5,4,3,2,1,0] [103,102,101,0] rfl rfl fun a w F hS=>?_
 rw [pls] at hS
 dsimp only at hS
 refine Zb (wp_seq ?_)
 refine Zc hS (qe 2 101 r1 r1 (qf (oB [(0,_),(4,_)] [.int .i64 0,.int .i64 0,.bool false,.slice none 0 0,.int .i64 0,.slice none 0 0,.int .i64 0,.int .i64 0,.int .i64 0,.int .i64 0] [(0,1),(1,3),(4,2),(6,1),(7,1),(8,1),(9,1)] (.one rfl qi one_int (by kernel_rfl) (.one rfl qi one_int (by kernel_rfl) .nil))) trivial qz (qf (oB [(0,_),(4,_)] [.int .i64 0,.int .i64 0,.bool false,.slice none 0 0,.int .i64 0,.slice none 0 0,.int .i64 0,.int .i64 0,.int .i64 0,.int .i64 0] [(0,1),(1,3),(4,2),(6,1),(7,1),(8,1),(9,1)] (.one rfl qi one_int (by kernel_rfl) (.one rfl qi one_int (by kernel_rfl) .nil))) trivial qz (qf (Zh (sz:=10) (zs:=[.int .i64 0,.int .i64 0,.bool false,.slice none 0 0,.int .i64 0,.slice none 0 0,.int .i64 0,.int .i64 0,.int .i64 0,.int .i64 0]) (r:=[(0,.tmp 60),(1,.tmp 61)]) (l:=[_,_,_,_,_,_,_,_,_,_,_,_,_,_,_,_,_,_,_,_]) Tryz.underlying26 (by kernel_rfl) (by kernel_rfl) (by kernel_rfl) (by kernel_rfl) rfl rfl (.agg rfl .t (by kernel_rfl) (by kernel_rfl) (.agg rfl .t (by kernel_rfl) (by kernel_rfl) .nil)) rfl) r2 qz (qf (oP (Zjj (⟨[(⟨1,true,[⟨false,5,0,0⟩]⟩:TxD)],[⟨5,[1]⟩]⟩:HistD) ([({zeroC 3 with key:=0,id:=1} : CmdD),({zeroC 3 with key:=0,id:=1} : CmdD)]:List CmdD) 12 plA (by decide) (by decide)) Tryz.func12 (Args.two (.pagg .t) (.conv .t (entArr (l:=[.int .i64 3,.int .i64 0,.bool false,.is (.slice none 0 0),.int .i64 0,.is (.slice none 0 0),.int .i64 0,.int .i64 1,.int .i64 0,.int .i64 0,.int .i64 3,.int .i64 0,.bool false,.is (.slice none 0 0),.int .i64 0,.is (.slice none 0 0),.int .i64 0,.int .i64 1,.int .i64 0,.int .i64 0]) (R:=rCmd) (l':=[({zeroC 3 with key:=0,id:=1} : CmdD),({zeroC 3 with key:=0,id:=1} : CmdD)]) rfl ⟨PVLe.refl,PVLe.refl,PVLe.refl,PVLe.nilSl,PVLe.refl,PVLe.nilSl,PVLe.refl,PVLe.refl,PVLe.refl,PVLe.refl,PVLe.refl,PVLe.refl,PVLe.refl,PVLe.nilSl,PVLe.refl,PVLe.nilSl,PVLe.refl,PVLe.refl,PVLe.refl,PVLe.refl,trivial⟩)))) r2 qz (qM rfl rfl (qf (o_extract .t rfl) r1 qz (qf (o_extract .t rfl) r1 qz (qf (o_extract .t rfl) r1 qz (qf (oH [.slice none 0 0,.slice none 0 0] 104) trivial qz (qf (oA 2 104 .same (.conv .t .agg)) r2 r1 (qN rfl rfl (qN rfl rfl qZ))))))))))))) hB [14,13,11,10,9,7,6,5,4,3,2,0] [104,103,102,101,0] (fun _=>rfl) (fun _=>rfl) fun τ a w F hS=>?_
 try dsimp only [RS.sub,SF.sub,CF.sub,csub,Anc.sub,List.map,Zf,xL,xM,Nat.reduceAdd,xD,xE,xT,xU,xC,xN,zCF,ldSF,Zk,rTx,Zs,ZG,rInt,rOp,rCmd,ZH,ZaJ,ZQ,ZA] at hS
 generalize τ 12=v12 at hS
 rw [plz] at hS
 dsimp only at hS
 refine Zb (wp_seq ?_)
 refine ZbI hS (by kernel_rfl) (nM rfl rfl (nf (o_eql .t (.ci (by kernel_rfl))) r1 trivial (nM rfl rfl (nm rfl rfl rfl rfl (nk rfl (fun h=>Z8 Tryz.underlying26 (.w h)) r2 trivial (nk rfl (fun h=>o_eql (.w h) (.ci (by kernel_rfl))) r2 trivial (nf (ZB .t .t) r2 trivial (nM rfl rfl (nm rfl rfl rfl rfl (nk rfl (fun h=>ZO (sz:=10) (.mk Tryz.underlying26 (by kernel_rfl)) (by intro x;rfl) (.w h) (.ci (by kernel_rfl)) (by decide) (by decide)) r2 trivial (nk rfl (fun h=>ZbB (off:=0) (.w h) (by kernel_rfl)) r2 trivial (nk rfl (fun h=>Zey (ag:=false) (sz:=1) (.w h) (by kernel_rfl) (by kernel_rfl) (by kernel_rfl)) r2 trivial (nk rfl (fun h=>o_eql (.w h) (.ci (by kernel_rfl))) r2 trivial (nf (ZB .t .t) r2 trivial (nM rfl rfl (nm rfl rfl rfl rfl (nk rfl (fun h=>ZO (sz:=10) (.mk Tryz.underlying26 (by kernel_rfl)) (by intro x;rfl) (.w h) (.ci (by kernel_rfl)) (by decide) (by decide)) r2 trivial (nk rfl (fun h=>ZbB (off:=0) (.w h) (by kernel_rfl)) r2 trivial (nk rfl (fun h=>Zey (ag:=false) (sz:=1) (.w h) (by kernel_rfl) (by kernel_rfl) (by kernel_rfl)) r2 trivial (nk rfl (fun h=>o_eql (.w h) (.ci (by kernel_rfl))) r2 trivial (nn [86,81,14,13,11,10,9,7,6,5,2,0] [104,103,102,101,0] rfl rfl (nf (ZB .t .t) r2 trivial (nM rfl rfl (nm rfl rfl rfl rfl (nk rfl (fun h=>o_eql (.w h) (.ci (by kernel_rfl))) r2 trivial (nf (ZB .t .t) r2 trivial (nM rfl rfl (nm rfl rfl rfl rfl (nk rfl (fun h=>o_eql (.w h) (.ci (by kernel_rfl))) r2 trivial (nf (ZB .t .t) r2 trivial (nM rfl rfl (nk rfl (fun h=>oL true 2 103 .is) r2 r1 (nk rfl (fun h=>oL true 2 102 .is) r2 r1 (nk rfl (fun h=>oP (ZgZ (⟨[(⟨2,true,[⟨false,5,0,0⟩]⟩:TxD)],[⟨5,[2]⟩]⟩:HistD) (⟨[(⟨2,true,[⟨false,5,0,0⟩]⟩:TxD)],[⟨5,[2]⟩]⟩:HistD)) Tryz.func15 (Args.two (.pagg (.w h)) (.pagg (.w h)))) r3 trivial (nf (ZB .t .t) r2 trivial (nM rfl rfl (nm rfl rfl rfl rfl (nk rfl (fun h=>o_eql (.w h) (.ci (by kernel_rfl))) r2 trivial (nf (ZB .t .t) r2 trivial (nM rfl rfl (nm rfl rfl rfl rfl (nn [106,105,14,13,11,0] [104,103,102,101,0] rfl rfl (nk rfl (fun h=>Z8 Tryz.underlying26 (.w h)) r2 trivial (nk rfl (fun h=>o_eql (.w h) (.ci (by kernel_rfl))) r2 trivial (nf (ZB .t .t) r2 trivial (nM rfl rfl (nm rfl rfl rfl rfl (nk rfl (fun h=>o_eql (.w h) (.ci (by kernel_rfl))) r2 trivial (nf (ZB .t .t) r2 trivial (nM rfl rfl (nm rfl rfl rfl rfl (nk rfl (fun h=>o_eql (.w h) (.ci (by kernel_rfl))) r2 trivial (nf (ZB .t .t) r2 trivial (nM rfl rfl (nm rfl rfl rfl rfl (nk rfl (fun h=>o_eql (.w h) (.ci (by kernel_rfl))) r2 trivial (nf (ZB .t .t) r2 trivial (nN rfl rfl ZT.nil)))))))))))))))))))))))))))))))))))))))))))))))))))))))))) (by kernel_rfl) (by rw [hB];kernel_rfl) fun a w F hS=>?_
 obtain ⟨F,hS⟩:=hS.nm [0] [104,103,102,101,0] rfl rfl
 try dsimp only [List.map,xD,xE,xT,xU,ldSF,Zk,rTx,Zs,ZG,rInt,rOp,rCmd,ZH,ZaJ,ZQ,ZA] at hS
 try simp only [Int.toNat_natCast] at hS
 refine Zb (wp_ret ?_)
 refine Zq hfr hS rfl rfl rfl (.bool (by decide +kernel))
theorem Zgo (g:HistD):FnP Tryz.prog 4 [.agg (Zk g)] (.bool true):=by
 refine FnP.mk Tryz.func4 rfl Tryz.ntmps4 rfl ?_
 intro B a w F hB hfr hS
 refine wp_seq ?_
 refine Zc hS (qx 101 r1 qB) hB [2,1] [101,0] (fun _=>rfl) (fun _=>rfl) fun τ a w F hS=>?_
 try dsimp only [RS.sub,SF.sub,CF.sub,csub,Anc.sub,List.map,zCF,Zk,rTx,Zs,ZG,rInt,rOp,rCmd,ZH,ZaJ,ZQ,ZA] at hS
 generalize τ 1=v1 at hS
 refine Zb (wp_seq (wp_seq ?_))
 refine Za hS (qf (oP (Zm3) Tryz.func9 Args.nil) trivial qz (qf (o_not .t) r1 qz qZ)) hB [14,2,1] [101,0] rfl rfl fun a w F hS=>Zb ?_
 refine Zd hS rfl (fun hc0=>?_) (fun hc0=>?_)
 ·skip
  simp at hc0
 refine wp_skip (Zb (wp_seq (wp_seq ?_)))
 refine Za hS (qe 2 101 r1 r1 (qf (oP (Zkn g) Tryz.func7 (Args.one (.pagg .t))) r1 qz (qf (o_not .t) r1 qz (qM rfl rfl (qk rfl (fun h=>oL true 2 101 .is) r2 r1 (qk rfl (fun h=>oP (ZbL g (Zbi.small (by simpa using h))) Tryz.func16 (Args.one (.pagg (.w h)))) r2 qz (qk rfl (fun h=>o_not (.w h)) r2 qz (qf (ZaL .t .t) r2 qz qZ)))))))) hB [22,2,1] [101,0] rfl rfl fun a w F hS=>Zb ?_
 refine Zd hS rfl (fun hc1=>?_) (fun hc1=>?_)
 ·skip
  refine wp_seq ?_
  refine Za hS qB hB [2,1] [101,0] rfl rfl fun a w F hS=>Zb (wp_ret (Zg ?_))
  refine Zq hfr hS rfl rfl rfl (.bool (by first | rfl | (rw [hil,List.take_length,Zgy];simp [zeroH])))
 have hcx:=hc1
 simp at hcx
 obtain ⟨hcl,hcr⟩:=hcx
 have hpg:ZdD 12 g:=ZdD.light (Zbi.small hcl) hcl.1 hcl.2.2.1
 have hpz:ZdD 12 zeroH:=ZdD.none
 have hf:ZaQ 12 g:=⟨hcr,hpg.2⟩
 have hfl:=ZmV g hpg.2.1
 have hlt:=(hpg.first hpz (by omega)).2.1
 have hdl:=Zow (ZJ g zeroH)
 refine wp_skip (Zb (wp_seq ?_))
 refine Za hS (qf (oB [] [.slice none 0 0,.slice none 0 0] [(0,1),(1,1)] .nil) trivial qz (qe 2 101 r1 r1 (qf (oP (ZbC zeroH g 12 (by omega) hpz hpg) Tryz.func10 (Args.two (.conv (.pagg .t) (Ent.paggLe (l:=[.is (.slice none 0 0),.is (.slice none 0 0)]) (l':=Zk zeroH) ⟨PVLe.nilSl,PVLe.nilSl,trivial⟩)) (.pagg .t))) r2 qz (qM rfl rfl (qf (o_extract .t rfl) r1 qz (qf (o_extract .t rfl) r1 qz (qN rfl rfl (qN rfl rfl qZ)))))))) hB [4,3,2,1] [101,0] rfl rfl fun a w F hS=>?_
 rw [Zg4 hf] at hS
 dsimp only at hS
 refine Zb (wp_seq ?_)
 refine Za hS (qe 2 101 r1 r1 (qf (oB [] [.slice none 0 0,.slice none 0 0] [(0,1),(1,1)] .nil) trivial qz (qf (oP (ZbC g zeroH 12 (by omega) hpg hpz) Tryz.func10 (Args.two (.pagg .t) (.conv (.pagg .t) (Ent.paggLe (l:=[.is (.slice none 0 0),.is (.slice none 0 0)]) (l':=Zk zeroH) ⟨PVLe.nilSl,PVLe.nilSl,trivial⟩)))) r2 qz (qM rfl rfl (qf (o_extract .t rfl) r1 qz (qf (o_extract .t rfl) r1 qz (qN rfl rfl (qN rfl rfl qZ)))))))) hB [6,5,4,3,2,1] [101,0] rfl rfl fun a w F hS=>?_
 rw [ZgT hf] at hS
 dsimp only at hS
 refine Zb (wp_seq ?_)
 refine Zc hS (qe 2 101 r1 r1 (qM rfl rfl (qf (oP (Zjj g (ZJ g zeroH) 12 hpg (by omega) hlt) Tryz.func12 (Args.two (.pagg .t) .t)) r2 qz (qM rfl rfl (qf (o_extract .t rfl) r1 qz (qf (o_extract .t rfl) r1 qz (qf (o_extract .t rfl) r1 qz (qf (oH [.slice none 0 0,.slice none 0 0] 102) trivial qz (qf (oA 2 102 .same (.conv .t .agg)) r2 r1 (qN rfl rfl (qN rfl rfl qZ))))))))))) hB [9,7,6,5,4,3,2,1] [102,101,0] (fun _=>rfl) (fun _=>rfl) fun τ a w F hS=>?_
 try dsimp only [RS.sub,SF.sub,CF.sub,csub,Anc.sub,List.map,Zf,xL,xM,Nat.reduceAdd,xD,xE,xT,xU,xC,xN,zCF,ldSF,Zk,rTx,Zs,ZG,rInt,rOp,rCmd,ZH,ZaJ,ZQ,ZA] at hS
 generalize τ 7=v7 at hS
 rw [ZnF hf] at hS
 dsimp only at hS
 refine Zb (wp_seq ?_)
 refine Za hS (qI qZ) hB [10,9,7,6,5,4,3,2,1] [102,101,0] rfl rfl fun a w F hS=>Zb (wp_seq (wp_seq ?_))
 refine Za hS (qM rfl rfl (qu Tryz.underlying26 r1 (qJ qZ))) hB [44,43,42,10,9,7,6,4,3,2,1] [102,101,0] rfl rfl fun a w F hS=>Zb (wp_block ?_)
 refine Zo (σ:=(Nat)) [1,2,3,4,6,7,9,42,43] [0,101,102] (fun s=>[(44,.pv (.int .i64 (s:Int))),(10,.pv (.int .i64 ((Zeh ((ZJ g zeroH).take s):Nat):Int)))]) (fun s=>[]) (fun s=>s≤(ZJ g zeroH).length∧(True)) (fun s=>(ZJ g zeroH).length - s) (0) hS ⟨rfl,rfl,rfl,rfl,rfl,rfl,rfl,rfl,rfl,rfl,rfl,trivial⟩ ⟨rfl,rfl,rfl,trivial⟩ ⟨Nat.zero_le _,trivial⟩ ?_
 clear hS;intro i a w F hC hS
 try dsimp only at hC
 obtain ⟨F,hS⟩:=hS.nm [44,43,42,10,9,7,6,4,3,2,1] [102,101,0] rfl rfl
 try dsimp only at hS
 obtain ⟨hi,hq⟩:=hC
 refine wp_seq ?_
 refine Za hS (qL r2) hB [45,44,43,42,10,9,7,6,4,3,2,1] [102,101,0] rfl rfl fun a w F hS=>Zb (wp_seq ?_)
 refine Zd hS rfl (fun hc2=>?_) (fun hc2=>?_)
 ·skip
  have hil:i<(ZJ g zeroH).length:=by simp at hc2;omega
  have hio:=hil
  refine wp_skip (Zb (wp_seq (wp_block (wp_seq ?_))))
  refine Zc hS (qy 10 Tryz.underlying26 r2 (qf (oR true 10 .t) r1 qz (qf (oH [.int .i64 0,.int .i64 0,.bool false,.slice none 0 0,.int .i64 0,.slice none 0 0,.int .i64 0,.int .i64 0,.int .i64 0,.int .i64 0] 103) trivial qz (qS 10 103 r2 r1 qZ)))) hB [44,43,42,12,10,9,7,6,4,3,2,1] [103,102,101,0] (fun _=>rfl) (fun _=>rfl) fun τ a w F hS=>?_
  try dsimp only [RS.sub,SF.sub,CF.sub,csub,Anc.sub,List.map,Zf,xL,xM,Nat.reduceAdd,xD,xE,xT,xU,xC,xN,zCF,ldSF,Zk,rTx,Zs,ZG,rInt,rOp,rCmd,ZH,ZaJ,ZQ,ZA] at hS
  generalize τ 12=v12 at hS
  try simp only [Int.toNat_natCast] at hS
  refine Zb (wp_seq ?_)
  refine Za hS (qg 0 103 r1 r1 (qa 103 r1 r1 (qf (o_eql .t qi) r1 qz qZ))) hB [50,44,43,42,10,9,7,6,4,3,2,1] [103,102,101,0] rfl rfl fun a w F hS=>Zb ?_
  refine Zd hS rfl (fun hc3=>?_) (fun hc3=>?_)
  ·skip
   have k9:IntKind.wrap .i64 ((Zeh ((ZJ g zeroH).take i):Int)+1)=((Zeh ((ZJ g zeroH).take (i+1)):Nat):Int):=by rw [ZgW hio,if_pos (by simpa using hc3),ZM (by have:=hdl i;omega)];omega
   refine Za hS (qM rfl rfl (qp r1 (qN rfl rfl qZ))) hB [44,43,42,10,9,7,6,4,3,2,1] [103,102,101,0] rfl rfl fun a w F hS=>Zi (Zb ?_)
   refine Za hS (qp r1 (qM rfl rfl qZ)) hB [44,43,42,10,9,7,6,4,3,2,1] [103,102,101,0] rfl rfl fun a w F hS=>Zb ?_
   replace hS:=hS.ent (i:=44) (s':=.pv (.int .i64 ((i+1:Nat):Int))) rfl (.int (Ze (by omega)))
   replace hS:=hS.ent (i:=10) (s':=.pv (.int .i64 ((Zeh ((ZJ g zeroH).take (i+1)):Nat):Int))) rfl (.int k9)
   obtain ⟨F,hS⟩:=hS.nm [43,42,9,7,6,4,3,2,1,10,44] [102,101,0] rfl rfl
   exact ⟨(i+1),F,⟨by omega,trivial⟩,hS,by omega⟩
  have k9:((Zeh ((ZJ g zeroH).take i):Nat):Int)=((Zeh ((ZJ g zeroH).take (i+1)):Nat):Int):=by rw [ZgW hio,if_neg (by simpa using hc3)];omega
  refine wp_skip (Zi (Zb ?_))
  refine Za hS (qp r1 (qM rfl rfl qZ)) hB [44,43,42,10,9,7,6,4,3,2,1] [103,102,101,0] rfl rfl fun a w F hS=>Zb ?_
  replace hS:=hS.ent (i:=44) (s':=.pv (.int .i64 ((i+1:Nat):Int))) rfl (.int (Ze (by omega)))
  replace hS:=hS.ent (i:=10) (s':=.pv (.int .i64 ((Zeh ((ZJ g zeroH).take (i+1)):Nat):Int))) rfl (.int k9)
  obtain ⟨F,hS⟩:=hS.nm [43,42,9,7,6,4,3,2,1,10,44] [102,101,0] rfl rfl
  exact ⟨(i+1),F,⟨by omega,trivial⟩,hS,by omega⟩
 have hil:i=(ZJ g zeroH).length:=by simp at hc2;omega
 refine wp_exit (Zj (Zj (Zp (Zb (wp_seq ?_)))))
 refine Za hS (qM rfl rfl (qf (o_eql .t qi) r1 qz (qM rfl rfl (qm rfl rfl rfl rfl (qk rfl (fun h=>oL true 2 101 .is) r2 r1 (qk rfl (fun h=>oP (ZbG g hpg.1) Tryz.func17 (Args.one (.pagg (.w h)))) r2 qz (qk rfl (fun h=>oP (ZoG _ _) Tryz.func14 (Args.two (.w h) (.w h))) r3 qz (qf (ZB .t .t) r2 qz (qM rfl rfl (qm rfl rfl rfl rfl (qk rfl (fun h=>o_eql (.w h) qi) r2 qz (qf (ZB .t .t) r2 qz (qM rfl rfl (qm rfl rfl rfl rfl (qk rfl (fun h=>o_eql (.w h) qi) r2 qz (qf (ZB .t .t) r2 qz (qM rfl rfl (qv 0 102 rfl r2 r1 (qw 102 rfl r2 r1 (qk rfl (fun h=>Z8 Tryz.underlying22 (.w h)) r2 qz (qk rfl (fun h=>o_eql (.w h) qi) r2 qz (qf (ZB .t .t) r2 qz (qM rfl rfl (qv 1 102 rfl r2 r1 (qw 102 rfl r2 r1 (qk rfl (fun h=>Z8 Tryz.underlying23 (.w h)) r2 qz (qk rfl (fun h=>o_eql (.w h) qi) r2 qz (qf (ZB .t .t) r2 qz (qM rfl rfl (qm rfl rfl rfl rfl (qv 0 101 rfl r2 r1 (qw 101 rfl r2 r1 (qk rfl (fun h=>Z8 Tryz.underlying22 (.w h)) r2 qz (qk rfl (fun h=>o_eql (.w h) (.w h)) r3 qz (qf (ZB .t .t) r2 qz (qN rfl rfl qZ)))))))))))))))))))))))))))))))))))) hB [2] [102,101,0] rfl rfl fun a w F hS=>Zb (wp_ret ?_)
 refine Zq hfr hS rfl rfl rfl (.bool (by first | rfl | (rw [hil,List.take_length,Zgy];simp [zeroH])))
theorem Zi6 {id:Int} {s r:List OpD} {o:OpD} : Zai id s (o :: r)=if Zaf o=false then 1 else if o.read=true∧o.tx=id∧(wcnt s o.key:Int)<o.nth then 6 else Zai id (s ++ [o]) r:=by rw [Zai]
theorem Zfw {id:Int} : ∀ (r s:List OpD),Zai id s r=0 → ∀ o ∈ r,Zaf o=true
 | [],_,_,o,ho=>by cases ho
 | x :: r,s,h,o,ho=>by
   rw [Zi6] at h
   split at h
   · cases h
   · rename_i h1
     split at h
     · cases h
     · rcases List.mem_cons.1 ho with rfl | ho
       · simpa using h1
       · exact Zfw r _ h o ho
theorem ZgI {t:TxD} (h:Z1 t=0):(1≤t.id∧t.id≤1048575)∧t.ops.length≤4095 ∧ ∀ o ∈ t.ops,Zaf o=true:=by
 unfold Z1 at h
 split at h
 · cases h
 · rename_i h1
   split at h
   · cases h
   · exact ⟨by omega,by omega,Zfw _ _ h⟩
def ZoW (t:TxD):CmdD:={zeroC 1 with tx:=t}
theorem Zlp {t:TxD} (h:Z1 t=0):Za9 (ZoW t)=true:=by
 obtain ⟨h1,h2,h3⟩:=ZgI h
 unfold Za9
 simp only [Bool.and_eq_true,decide_eq_true_eq,List.all_eq_true]
 refine ⟨⟨by show ZqX≠[];decide,rfl,h2,fun h9=>absurd h9.1 (by show ¬ (1:Int)=9;decide)⟩,fun n hn=>?_,h3⟩
 unfold Zo6
 have:n=t.id∨n=0:=by
   unfold Zb1 ZoW zeroC at hn
   simp at hn
   exact hn
 simp
 omega
theorem Zdt {n:Int} (h:0≤n∧n≤1048575):(textL n).length≤7:=by
 unfold textL
 rw [if_neg (by omega),List.length_map]
 unfold Zgx
 have:=Zhz 6 (n.natAbs / 10) (by omega)
 rw [List.length_append]
 simp only [List.length_cons,List.length_nil]
 omega
theorem Zfl (f:OpD→Bool):∀ l:List OpD,(Zes (l.filter f)).length≤(Zes l).length
 | []=>Nat.le_refl _
 | o :: l=>by
   have ih:=Zfl f l
   unfold Zes at ih ⊢
   by_cases h:f o=true
   · rw [List.filter_cons_of_pos h,List.flatMap_cons,List.flatMap_cons,List.length_append,List.length_append];omega
   · rw [List.filter_cons_of_neg h,List.flatMap_cons,List.length_append];omega
theorem Zil {t:TxD} (h:Z1 t=0):(Zbp (ZoW t)).length=4+(Zdc t).length:=by
 unfold Zbp
 rw [if_neg (by rw [Zlp h];simp)]
 show (Zah [ZqX,Zdc t]).length=_
 rw [Zbt]
 simp only [List.flatMap_cons,List.flatMap_nil,List.append_nil,List.length_append,List.length_cons]
 show 3+_=_
 omega
theorem ZjJ {c:CmdD} {n:Nat} (h:(Zah ((Z3 c.kind).s :: ZaN c)).length≤n):(Zbp c).length≤n:=by
 unfold Zbp
 split
 · exact Nat.zero_le _
 · exact h
def Zn2 (g:HistD) (c:CmdD):Nat:=if c.kind=1∨c.kind=2 then max 64 (Zbp (ZoW ((ZK g.txs c.tx.id).getD zeroT))).length else 64
theorem Ziw {g:HistD} (hg:Zu g) {c:CmdD} (hc:c ∈ commandsC g):(Zbp c).length≤Zn2 g c:=by
 have hr:=(Zr hg).1
 rw [Zba hg] at hc
 unfold Zn2
 rcases List.mem_append.1 hc with hc | hc
 · rcases List.mem_append.1 hc with hc | hc
   · obtain ⟨t,ht,rfl⟩:=List.mem_map.1 hc
     rw [if_pos (.inl rfl),show (ZbJ t).tx.id=t.id from rfl,Za4 hr ht]
     refine Nat.le_trans ?_ (Nat.le_max_right _ _)
     rw [show (some t).getD zeroT=t from rfl,Zil (Za0 hg ht).1]
     refine ZjJ ?_
     show (Zah [ZqX,Zdc (bareT t)]).length≤_
     rw [Zbt]
     simp only [List.flatMap_cons,List.flatMap_nil,List.append_nil,List.length_append,List.length_cons]
     have:=Zfl (fun o=>!o.read) t.ops
     unfold Zdc
     rw [List.length_append,List.length_append]
     show 3+((Zb7 t).length+(Zes (t.ops.filter fun o=>!o.read)).length+1)≤_
     omega
   · obtain ⟨t,ht,rfl⟩:=List.mem_map.1 hc
     have ht:=(List.mem_filter.1 ht).1
     rw [if_pos (.inr rfl),show (ZbK t).tx.id=t.id from rfl,Za4 hr ht]
     refine Nat.le_trans ?_ (Nat.le_max_right _ _)
     rw [show (some t).getD zeroT=t from rfl,Zil (Za0 hg ht).1]
     refine ZjJ ?_
     show (Zah [Zrs,Zdc t]).length≤_
     rw [Zbt]
     simp only [List.flatMap_cons,List.flatMap_nil,List.append_nil,List.length_append,List.length_cons]
     show 3+_≤_
     omega
 · obtain ⟨o,ho,hc⟩:=List.mem_flatMap.1 hc
   unfold ZbF at hc
   obtain ⟨p,hp,rfl⟩:=List.mem_map.1 hc
   rw [if_neg (by show ¬ ((5:Int)=1∨(5:Int)=2);decide)]
   refine ZjJ ?_
   show (Zah [Zrw,Zcm [o.key,p.key,p.val]]).length≤64
   have hk:0≤o.key∧o.key≤1048575:=by
     have q:=(Zab.1 hg).2.2.2.2.2 o.key
     rw [Za3 (Zv.1 (Zr hg).2) ho] at q
     have hw:ZW g.txs o.key≠[]:=fun h9=>by
       rw [h9] at q
       exact ZcV hg o ho q.eq_nil
     obtain ⟨x,hx⟩:=List.exists_mem_of_ne_nil _ hw
     obtain ⟨t,h1,_,_,h2⟩:=Zbe.1 hx
     have h3:=(ZgI (Za0 hg h1).1).2.2
     unfold wcnt at h2
     obtain ⟨u,hu⟩:=List.exists_mem_of_length_pos h2
     have hu:=List.mem_filter.1 hu
     simp at hu
     have h4:=ZdO (h3 u hu.1)
     rw [← hu.2.2]
     omega
   unfold Zak at hp
   split at hp
   · rename_i hok
     obtain ⟨v1,v2,v3⟩:=Zds o.txs (o.txs.mergeSort leI) 0 p hp
     have hid:=hok.2.1.1 p.key v1
     have hl:o.txs.length≤4096:=by
       have q:=(Zab.1 hg).2.2.2.2.2 o.key
       rw [Za3 (Zv.1 (Zr hg).2) ho] at q
       rw [q.length_eq]
       exact Nat.le_trans (ZbO _ _) hg.1
     have l1:=Zdt hk
     have l2:=Zdt (n:=p.key) (by omega)
     have l3:=Zdt (n:=p.val) (by omega)
     rw [Zbt,ZjA,List.map_cons,Zbt]
     simp only [List.map_cons,List.map_nil,List.flatMap_cons,List.flatMap_nil,List.append_nil,List.length_append,List.length_cons]
     show 3+_≤_
     omega
   · cases hp
theorem Zh1:∀ {m l:List TxD},(l.Pairwise fun a b=>a.id<b.id)→(m.Pairwise fun a b=>a.id<b.id)→(∀ s ∈ l,∃ u ∈ m,u.id=s.id∧s.ops.length≤u.ops.length)→l.length≤m.length∧wSum l≤wSum m
 | [],l,_,_,h=>by
   have:l = []:=List.eq_nil_iff_forall_not_mem.2 fun x hx=>by obtain ⟨u,hu,_⟩:=h x hx;cases hu
   subst this;exact ⟨Nat.le_refl _,Nat.le_refl _⟩
 | u :: m,[],_,_,_=>⟨Nat.zero_le _,Nat.zero_le _⟩
 | u :: m,s :: l,hl,hm,h=>by
   have hl':=List.pairwise_cons.1 hl
   have hm':=List.pairwise_cons.1 hm
   have ws:∀ (t:TxD) (l:List TxD),wSum (t :: l)=t.ops.length+1+wSum l:=fun t l=>by simp [wSum]
   by_cases e:u.id=s.id
   · have hs:s.ops.length≤u.ops.length:=by
       obtain ⟨v,hv,h1,h2⟩:=h s (by simp)
       rcases List.mem_cons.1 hv with rfl | hv
       · exact h2
       · have:=hm'.1 v hv;omega
     have ih:=Zh1 (m:=m) (l:=l) hl'.2 hm'.2 fun z hz=>by
       obtain ⟨v,hv,h1,h2⟩:=h z (by simp [hz])
       rcases List.mem_cons.1 hv with rfl | hv
       · have:=hl'.1 z hz;omega
       · exact ⟨v,hv,h1,h2⟩
     rw [ws,ws,List.length_cons,List.length_cons];omega
   · have ih:=Zh1 (m:=m) (l:=s :: l) hl hm'.2 fun z hz=>by
       obtain ⟨v,hv,h1,h2⟩:=h z hz
       rcases List.mem_cons.1 hv with rfl | hv
       · exfalso
         obtain ⟨v2,hv2,h3,_⟩:=h s (by simp)
         rcases List.mem_cons.1 hv2 with rfl | hv2
         · exact e h3
         · have:=hm'.1 v2 hv2
           rcases List.mem_cons.1 hz with rfl | hz
           · omega
           · have:=hl'.1 z hz;omega
       · exact ⟨v,hv,h1,h2⟩
     have w1:=ws u m
     have w2:(u :: m).length=m.length+1:=rfl
     exact ⟨by omega,by omega⟩
def Zgl (g:HistD) (i:Nat):HistD:=(playC zeroH ((commandsC g).take i) 0).1
theorem Zeq {g:HistD} (hg:ZaQ 12 g):ZbT (fun x=>Zu x∧Zos x g) zeroH (commandsC g) g:=by
 obtain ⟨_,_,_,_,_,h⟩:=Zdu (a:=zeroH) (b:=g) (Q:=fun x=>Zu x∧Zos x g) (fun x h1 h2=>⟨h1,h2 rfl⟩) (ZaQ.le ZaQ.zero (by omega)) hg
 rwa [Zg4 hg] at h
theorem ZmF {g:HistD} (hg:ZaQ 12 g):Zgl g (commandsC g).length=g:=by
 unfold Zgl
 rw [List.take_length,(Zeq hg).play 0]
theorem ZnS {g:HistD} (hg:ZaQ 12 g):∀ {i:Nat},i≤(commandsC g).length→Zu (Zgl g i)∧Zos (Zgl g i) g
 | 0,_=>⟨Zc1,fun s hs=>by cases hs⟩
 | i+1,hi=>by
   obtain ⟨x,h1,h2,h3,h4⟩:=(Zeq hg).at (i:=i) hi
   unfold Zgl
   rw [h4];exact h3
theorem ZjO {g:HistD} (hg:ZaQ 12 g) {i:Nat} (hi:i≤(commandsC g).length):ZaQ 12 (Zgl g i)∧(Zgl g i).txs.length≤g.txs.length∧wSum (Zgl g i).txs≤wSum g.txs:=by
 obtain ⟨h1,h2⟩:=ZnS hg hi
 obtain ⟨k1,k2⟩:=Zh1 (Zv.1 (Zr h1).1) (Zv.1 (Zr hg.1).1) h2
 refine ⟨⟨h1,Nat.le_trans k1 hg.2.1,fun s hs=>?_⟩,k1,k2⟩
 obtain ⟨u,hu,_,h3⟩:=h2 s hs
 exact Nat.le_trans h3 (hg.2.2 u hu)
theorem Zki {g:HistD} (hg:ZaQ 12 g) {i:Nat} (hi:i<(commandsC g).length):ZN (Zgl g i) (Go.Gm.nth (commandsC g) i)=(Zgl g (i+1),0):=by
 obtain ⟨x,h1,h2,h3,h4⟩:=(Zeq hg).at hi
 have e1:Zgl g i=x:=by unfold Zgl;rw [h1]
 have e2:Zgl g (i+1)=(ZN x (Go.Gm.nth (commandsC g) i)).1:=by unfold Zgl;rw [h4]
 rw [e1,e2,← h2]
theorem ZiY {g:HistD} (hg:ZaQ 12 g) {i:Nat} (hi:i<(commandsC g).length):ZaO (Go.Gm.nth (commandsC g) i):=by
 have hm:=ZR hi
 generalize Go.Gm.nth (commandsC g) i=c at hm ⊢
 refine ⟨?_,by rw [Zde hm];exact Nat.zero_le _⟩
 rw [Zba hg.1] at hm
 rcases List.mem_append.1 hm with h | h
 · rcases List.mem_append.1 h with h | h
   · obtain ⟨t,ht,e⟩:=List.mem_map.1 h
     rw [← e];exact Nat.le_trans (List.length_filter_le _ _) (hg.2.2 t ht)
   · obtain ⟨t,ht,e⟩:=List.mem_map.1 h
     rw [← e];exact hg.2.2 t (List.mem_filter.1 ht).1
 · obtain ⟨o,_,h⟩:=List.mem_flatMap.1 h
   unfold ZbF at h
   obtain ⟨p,_,e⟩:=List.mem_map.1 h
   rw [← e];exact Nat.zero_le _
theorem ZaQ.smallH {g:HistD} (h:ZaQ 12 g):ZaY g:=h.fit.small40 (by omega)
theorem Zgt (g:HistD):FnP Tryz.prog 6 [.agg (Zk g)] (.bool true):=by
 refine FnP.mk Tryz.func6 rfl Tryz.ntmps6 rfl ?_
 intro B a w F hB hfr hS
 refine wp_seq ?_
 refine Zc hS (qx 101 r1 qB) hB [2,1] [101,0] (fun _=>rfl) (fun _=>rfl) fun τ a w F hS=>?_
 try dsimp only [RS.sub,SF.sub,CF.sub,csub,Anc.sub,List.map,zCF,Zk,rTx,Zs,ZG,rInt,rOp,rCmd,ZH,ZaJ,ZQ,ZA,rS] at hS
 generalize τ 1=v1 at hS
 refine Zb (wp_seq (wp_seq ?_))
 refine Za hS (qf (oP (ZmW) Tryz.func18 Args.nil) trivial qz (qf (o_not .t) r1 qz qZ)) hB [14,2,1] [101,0] rfl rfl fun a w F hS=>Zb ?_
 refine Zd hS rfl (fun hc0=>?_) (fun hc0=>?_)
 ·skip
  simp at hc0
 refine wp_skip (Zb (wp_seq (wp_seq ?_)))
 refine Za hS (qe 2 101 r1 r1 (qf (oP (Zkn g) Tryz.func7 (Args.one (.pagg .t))) r1 qz (qf (o_not .t) r1 qz (qM rfl rfl (qk rfl (fun h=>oL true 2 101 .is) r2 r1 (qk rfl (fun h=>oP (ZbL g (Zbi.small (by simpa using h))) Tryz.func16 (Args.one (.pagg (.w h)))) r2 qz (qk rfl (fun h=>o_not (.w h)) r2 qz (qf (ZaL .t .t) r2 qz qZ)))))))) hB [22,2,1] [101,0] rfl rfl fun a w F hS=>Zb ?_
 refine Zd hS rfl (fun hc1=>?_) (fun hc1=>?_)
 ·skip
  refine wp_seq ?_
  refine Za hS qB hB [2,1] [101,0] rfl rfl fun a w F hS=>Zb (wp_ret (Zg ?_))
  refine Zq hfr hS rfl rfl rfl (.bool (by first | rfl | (rw [hil,ZmF hf];simp)))
 have hcx:=hc1
 simp at hcx
 obtain ⟨hcl,hcr⟩:=hcx
 have hpg:ZdD 12 g:=ZdD.light (Zbi.small hcl) hcl.1 hcl.2.2.1
 have hsg:=hpg.1
 have hf:ZaQ 12 g:=⟨hcr,hpg.2⟩
 have hcn:=ZeO hsg
 refine wp_skip (Zb (wp_seq ?_))
 refine ZC hS (qe 2 101 r1 r1 (qf (oP (ZbG g hsg) Tryz.func17 (Args.one (.pagg .t))) r1 qz (qe 2 101 r1 r1 (qf (oP (ZhN g hsg) Tryz.func23 (Args.one (.pagg .t))) r1 qz (qN rfl rfl (qN rfl rfl qZ)))))) hB [4,3,2,1] [101,0] rfl rfl fun a w F hS=>?_
 try dsimp only [List.map,xD,xE,xT,xU,ldSF,Zk,rTx,Zs,ZG,rInt,rOp,rCmd,ZH,ZaJ,ZQ,ZA,rS] at hS
 refine Zb (wp_seq (wp_seq ?_))
 refine Za hS (qM rfl rfl (qu Tryz.underlying26 r1 (qM rfl rfl (qu Tryz.underlying49 r1 (qf (o_neq .t .t) r2 qz qZ))))) hB [31,4,3,2,1] [101,0] rfl rfl fun a w F hS=>Zb ?_
 refine Zd hS rfl (fun hc2=>?_) (fun hc2=>?_)
 ·skip
  simp at hc2
 refine wp_skip (Zb (wp_seq ?_))
 refine Zc hS (qf (oH [.slice none 0 0,.slice none 0 0] 102) trivial qz qZ) hB [5,4,3,2,1] [102,101,0] (fun _=>rfl) (fun _=>rfl) fun τ a w F hS=>?_
 try dsimp only [RS.sub,SF.sub,CF.sub,csub,Anc.sub,List.map,zCF,Zk,rTx,Zs,ZG,rInt,rOp,rCmd,ZH,ZaJ,ZQ,ZA,rS] at hS
 generalize τ 5=v5 at hS
 refine Zb (wp_seq (wp_seq ?_))
 refine Za hS (qM rfl rfl (qu Tryz.underlying26 r1 (qJ qZ))) hB [34,33,32,5,4,2,1] [102,101,0] rfl rfl fun a w F hS=>Zb (wp_block ?_)
 replace hS:=hS.turn 102 rfl (r':=.pt (.val v5) 25 [.pv (.sl rTx (Zgl g 0).txs),.pv (.sl Zs (Zgl g 0).orders)]) (Zqr rfl rfl ⟨PVLe.nilSl,PVLe.nilSl,trivial⟩)
 refine Zo (σ:=(Nat)) [1,2,4,5,32,33] [0,101] (fun s=>[(34,.pv (.int .i64 (s:Int)))]) (fun s=>[(102,.pt (.val v5) 25 [.pv (.sl rTx (Zgl g s).txs),.pv (.sl Zs (Zgl g s).orders)])]) (fun s=>s≤(commandsC g).length∧(True)) (fun s=>(commandsC g).length - s) (0) hS ⟨rfl,rfl,rfl,rfl,rfl,rfl,rfl,trivial⟩ ⟨rfl,rfl,rfl,trivial⟩ ⟨Nat.zero_le _,trivial⟩ ?_
 clear hS;intro i a w F hC hS
 try dsimp only at hC
 obtain ⟨F,hS⟩:=hS.nm [34,33,32,5,4,2,1] [102,101,0] rfl rfl
 try dsimp only at hS
 obtain ⟨hi,hq⟩:=hC
 obtain ⟨hwf,_,_⟩:=ZjO hf hi
 have hws:=hwf.smallH
 refine wp_seq ?_
 refine Za hS (qL r2) hB [35,34,33,32,5,4,2,1] [102,101,0] rfl rfl fun a w F hS=>Zb (wp_seq ?_)
 refine Zd hS rfl (fun hc3=>?_) (fun hc3=>?_)
 ·skip
  have hil:i<(commandsC g).length:=by simp at hc3;omega
  have hio:=hil
  have hlm9:Go.Gm.nth ((commandsC g).map Zbp) i=Zbp (Go.Gm.nth (commandsC g) i):=ZbP hio
  refine wp_skip (Zb (wp_seq (wp_block (wp_seq ?_))))
  refine Zc hS (qM rfl rfl (qf (ZO (sz:=10) (.mk Tryz.underlying26 (by kernel_rfl)) (by intro x;rfl) .t .t (by omega) (by first | omega | (rw [List.length_map];omega))) r2 qz (qf (oR true 10 .t) r1 qz (qf (oH [.int .i64 0,.int .i64 0,.bool false,.slice none 0 0,.int .i64 0,.slice none 0 0,.int .i64 0,.int .i64 0,.int .i64 0,.int .i64 0] 103) trivial qz (qN rfl rfl (qS 10 103 r2 r1 qZ)))))) hB [34,33,32,7,6,5,4,2,1] [103,102,101,0] (fun _=>rfl) (fun _=>rfl) fun τ a w F hS=>?_
  try dsimp only [RS.sub,SF.sub,CF.sub,csub,Anc.sub,List.map,Zf,xL,xM,Nat.reduceAdd,xD,xE,xT,xU,xC,xN,zCF,ldSF,Zk,rTx,Zs,ZG,rInt,rOp,rCmd,ZH,ZaJ,ZQ,ZA,rS] at hS
  generalize τ 7=v7 at hS
  try simp only [Int.toNat_natCast] at hS
  refine Zb (wp_seq ?_)
  refine Za hS (qI qZ) hB [34,33,32,8,7,6,5,4,2,1] [103,102,101,0] rfl rfl fun a w F hS=>Zb (wp_seq (wp_seq ?_))
  refine Za hS (qg 0 103 r1 r1 (qa 103 r1 r1 (qf (o_eql .t qi) r1 qz (qM rfl rfl (qv 0 103 rfl r2 r1 (qw 103 rfl r2 r1 (qk rfl (fun h=>o_eql (.w h) qi) r2 qz (qf (ZaL .t .t) r2 qz qZ)))))))) hB [46,34,33,32,8,7,6,5,4,2,1] [103,102,101,0] rfl rfl fun a w F hS=>Zb ?_
  refine Zd hS rfl (fun hc4=>?_) (fun hc4=>?_)
  ·skip
   have hmost:Zn2 g (Go.Gm.nth (commandsC g) i)=max 64 (Zbp (ZoW ((ZK g.txs (Go.Gm.nth (commandsC g) i).tx.id).getD zeroT))).length:=if_pos (by simpa using hc4)
   refine wp_seq ?_
   refine Zc hS (qe 2 101 r1 r1 (qg 1 103 r1 r1 (qf (oF 0 103 .adr) r1 r1 (qa 103 r1 r1 (qf (oP (ZmX g (Go.Gm.nth (commandsC g) i).tx.id hsg.1) Tryz.func27 (Args.two (.pagg .t) .t)) r2 qz (qM rfl rfl (qf (o_extract .t rfl) r1 qz (qf (o_extract .t rfl) r1 qz (qf (oH [.int .i64 0,.bool false,.slice none 0 0] 104) trivial qz (qf (oA 3 104 .same (.conv .t .agg)) r2 r1 (qN rfl rfl qZ))))))))))) hB [34,33,32,9,8,7,6,5,4,2,1] [104,103,102,101,0] (fun _=>rfl) (fun _=>rfl) fun τ a w F hS=>?_
   try dsimp only [RS.sub,SF.sub,CF.sub,csub,Anc.sub,List.map,Zf,xL,xM,Nat.reduceAdd,xD,xE,xT,xU,xC,xN,zCF,ldSF,Zk,rTx,Zs,ZG,rInt,rOp,rCmd,ZH,ZaJ,ZQ,ZA,rS] at hS
   generalize τ 9=v9 at hS
   refine Zb ?_
   refine Za hS (qM rfl rfl (qe 3 104 r1 r1 (qf (oB [(0,_),(1,.tmp 56)] [.int .i64 0,.int .i64 0,.bool false,.slice none 0 0,.int .i64 0,.slice none 0 0,.int .i64 0,.int .i64 0,.int .i64 0,.int .i64 0] [(0,1),(1,3),(4,2),(6,1),(7,1),(8,1),(9,1)] (.one rfl qi one_int (by kernel_rfl) (.agg rfl .t (by kernel_rfl) (by kernel_rfl) .nil))) r1 qz (qf (oP (Zh7 (ZoW ((ZK g.txs (Go.Gm.nth (commandsC g) i).tx.id).getD zeroT)) (by simp [ZoW,zeroC])) Tryz.func28 (Args.one (.conv (.pagg .t) (Ent.paggLe (l:=[.int .i64 1,.int .i64 ((ZK g.txs (Go.Gm.nth (commandsC g) i).tx.id).getD zeroT).id,.bool ((ZK g.txs (Go.Gm.nth (commandsC g) i).tx.id).getD zeroT).done,.sl rOp ((ZK g.txs (Go.Gm.nth (commandsC g) i).tx.id).getD zeroT).ops,.int .i64 0,.is (.slice none 0 0),.int .i64 0,.int .i64 0,.int .i64 0,.int .i64 0]) (l':=rCmd (ZoW ((ZK g.txs (Go.Gm.nth (commandsC g) i).tx.id).getD zeroT))) ⟨PVLe.refl,PVLe.refl,PVLe.refl,PVLe.refl,PVLe.refl,PVLe.nilSl,PVLe.refl,PVLe.refl,PVLe.refl,PVLe.refl,trivial⟩)))) r1 qz (qf (o_len_bs Tryz.underlying9 .t) r1 qz (qf (ZqZ .t .t) r2 qz (qN rfl rfl qZ))))))) hB [34,33,32,8,7,6,5,4,2,1] [104,103,102,101,0] rfl rfl fun a w F hS=>Zb (wp_seq ?_)
   refine Zc hS (qe 2 102 r1 r1 (qe 10 103 r1 r1 (qf (oP (Zdr (Zgl g i) (Go.Gm.nth (commandsC g) i) hws (ZiY hf hio)) Tryz.func25 (Args.two (.pagg .t) (.pagg .t))) r2 qz (qM rfl rfl (qf (o_extract .t rfl) r1 qz (qf (o_extract .t rfl) r1 qz (qf (oH [.slice none 0 0,.slice none 0 0] 105) trivial qz (qf (oA 2 105 .same (.conv .t .agg)) r2 r1 (qN rfl rfl qZ))))))))) hB [34,33,32,12,11,8,6,5,4,2,1] [105,104,103,102,101,0] (fun _=>rfl) (fun _=>rfl) fun τ a w F hS=>?_
   try dsimp only [RS.sub,SF.sub,CF.sub,csub,Anc.sub,List.map,Zf,xL,xM,Nat.reduceAdd,xD,xE,xT,xU,xC,xN,zCF,ldSF,Zk,rTx,Zs,ZG,rInt,rOp,rCmd,ZH,ZaJ,ZQ,ZA,rS] at hS
   generalize τ 11=v11 at hS
   rw [Zki hf hio] at hS
   dsimp only at hS
   obtain ⟨hwg,hwl,hww⟩:=ZjO hf (i:=i+1) (by omega)
   refine Zb (wp_seq (wp_seq ?_))
   refine ZC hS (qM rfl rfl (qM rfl rfl (qf (ZO (sz:=1) (.mk Tryz.underlying49 (by kernel_rfl)) (by intro x;rfl) .t .t (by omega) (by first | omega | (rw [List.length_map];omega))) r2 qz (qf (oR false 1 .t) r1 qz (qf (o_len_bs Tryz.underlying9 .t) r1 qz (qM rfl rfl (qf (o_gtr .t .t) r2 qz (qM rfl rfl (qm rfl rfl rfl rfl (qk rfl (fun h=>o_neq (.w h) qi) r2 qz (qf (ZaL .t .t) r2 qz (qM rfl rfl (qv 0 105 rfl r2 r1 (qw 105 rfl r2 r1 (qk rfl (fun h=>Z8 Tryz.underlying22 (.w h)) r2 qz (qv 0 101 rfl r2 r1 (qw 101 rfl r2 r1 (qk rfl (fun h=>Z8 Tryz.underlying22 (.w h)) r2 qz (qk rfl (fun h=>o_gtr (.w h) (.w h)) r3 qz (qf (ZaL .t .t) r2 qz (qM rfl rfl (qk rfl (fun h=>oL true 2 105 .is) r2 r1 (qk rfl (fun h=>oP (Zd5 (Zgl g (i+1)) hwg.smallH.1) Tryz.func29 (Args.one (.pagg (.w h)))) r2 qz (qk rfl (fun h=>oL true 2 101 .is) r2 r1 (qk rfl (fun h=>oP (Zd5 g hsg.1) Tryz.func29 (Args.one (.pagg (.w h)))) r2 qz (qk rfl (fun h=>o_gtr (.w h) (.w h)) r3 qz (qf (ZaL .t .t) r2 qz qZ))))))))))))))))))))))))))) hB [93,34,33,32,11,5,4,2,1] [105,104,103,102,101,0] rfl rfl fun a w F hS=>?_
   try dsimp only [List.map,xD,xE,xT,xU,ldSF,Zk,rTx,Zs,ZG,rInt,rOp,rCmd,ZH,ZaJ,ZQ,ZA,rS] at hS
   try simp only [Int.toNat_natCast] at hS
   refine Zb ?_
   refine Zd hS rfl (fun hc5=>?_) (fun hc5=>?_)
   ·skip
    have hlm:=Ziw hf.1 (ZR hio)
    rw [hmost] at hlm
    rw [← hlm9] at hlm
    simp at hc5
    first | omega | (split at hc5 <;> omega)
   refine wp_skip (Zb ?_)
   refine Za hS (qe 2 105 r1 r1 (qs 2 102 r2 r1 qZ)) hB [34,33,32,5,4,2,1] [105,104,103,102,101,0] rfl rfl fun a w F hS=>Zi (Zb ?_)
   refine Za hS (qp r1 (qM rfl rfl qZ)) hB [34,33,32,5,4,2,1] [105,104,103,102,101,0] rfl rfl fun a w F hS=>Zb ?_
   replace hS:=hS.ent (i:=34) (s':=.pv (.int .i64 ((i+1:Nat):Int))) rfl (.int (Ze (by omega)))
   obtain ⟨F,hS⟩:=hS.nm [33,32,5,4,2,1,34] [101,0,102] rfl rfl
   exact ⟨(i+1),F,⟨by omega,trivial⟩,hS,by omega⟩
  have hmost:Zn2 g (Go.Gm.nth (commandsC g) i)=64:=if_neg (by simpa using hc4)
  refine wp_skip (Zb (wp_seq ?_))
  refine Zc hS (qe 2 102 r1 r1 (qe 10 103 r1 r1 (qf (oP (Zdr (Zgl g i) (Go.Gm.nth (commandsC g) i) hws (ZiY hf hio)) Tryz.func25 (Args.two (.pagg .t) (.pagg .t))) r2 qz (qM rfl rfl (qf (o_extract .t rfl) r1 qz (qf (o_extract .t rfl) r1 qz (qf (oH [.slice none 0 0,.slice none 0 0] 106) trivial qz (qf (oA 2 106 .same (.conv .t .agg)) r2 r1 (qN rfl rfl qZ))))))))) hB [34,33,32,12,11,8,6,5,4,2,1] [106,103,102,101,0] (fun _=>rfl) (fun _=>rfl) fun τ a w F hS=>?_
  try dsimp only [RS.sub,SF.sub,CF.sub,csub,Anc.sub,List.map,Zf,xL,xM,Nat.reduceAdd,xD,xE,xT,xU,xC,xN,zCF,ldSF,Zk,rTx,Zs,ZG,rInt,rOp,rCmd,ZH,ZaJ,ZQ,ZA,rS] at hS
  generalize τ 11=v11 at hS
  rw [Zki hf hio] at hS
  dsimp only at hS
  obtain ⟨hwg,hwl,hww⟩:=ZjO hf (i:=i+1) (by omega)
  refine Zb (wp_seq (wp_seq ?_))
  refine ZC hS (qM rfl rfl (qM rfl rfl (qf (ZO (sz:=1) (.mk Tryz.underlying49 (by kernel_rfl)) (by intro x;rfl) .t .t (by omega) (by first | omega | (rw [List.length_map];omega))) r2 qz (qf (oR false 1 .t) r1 qz (qf (o_len_bs Tryz.underlying9 .t) r1 qz (qM rfl rfl (qf (o_gtr .t .t) r2 qz (qM rfl rfl (qm rfl rfl rfl rfl (qk rfl (fun h=>o_neq (.w h) qi) r2 qz (qf (ZaL .t .t) r2 qz (qM rfl rfl (qv 0 106 rfl r2 r1 (qw 106 rfl r2 r1 (qk rfl (fun h=>Z8 Tryz.underlying22 (.w h)) r2 qz (qv 0 101 rfl r2 r1 (qw 101 rfl r2 r1 (qk rfl (fun h=>Z8 Tryz.underlying22 (.w h)) r2 qz (qk rfl (fun h=>o_gtr (.w h) (.w h)) r3 qz (qf (ZaL .t .t) r2 qz (qM rfl rfl (qk rfl (fun h=>oL true 2 106 .is) r2 r1 (qk rfl (fun h=>oP (Zd5 (Zgl g (i+1)) hwg.smallH.1) Tryz.func29 (Args.one (.pagg (.w h)))) r2 qz (qk rfl (fun h=>oL true 2 101 .is) r2 r1 (qk rfl (fun h=>oP (Zd5 g hsg.1) Tryz.func29 (Args.one (.pagg (.w h)))) r2 qz (qk rfl (fun h=>o_gtr (.w h) (.w h)) r3 qz (qf (ZaL .t .t) r2 qz qZ))))))))))))))))))))))))))) hB [93,34,33,32,11,5,4,2,1] [106,103,102,101,0] rfl rfl fun a w F hS=>?_
  try dsimp only [List.map,xD,xE,xT,xU,ldSF,Zk,rTx,Zs,ZG,rInt,rOp,rCmd,ZH,ZaJ,ZQ,ZA,rS] at hS
  try simp only [Int.toNat_natCast] at hS
  refine Zb ?_
  refine Zd hS rfl (fun hc6=>?_) (fun hc6=>?_)
  ·skip
   have hlm:=Ziw hf.1 (ZR hio)
   rw [hmost] at hlm
   rw [← hlm9] at hlm
   simp at hc6
   first | omega | (split at hc6 <;> omega)
  refine wp_skip (Zb ?_)
  refine Za hS (qe 2 106 r1 r1 (qs 2 102 r2 r1 qZ)) hB [34,33,32,5,4,2,1] [106,103,102,101,0] rfl rfl fun a w F hS=>Zi (Zb ?_)
  refine Za hS (qp r1 (qM rfl rfl qZ)) hB [34,33,32,5,4,2,1] [106,103,102,101,0] rfl rfl fun a w F hS=>Zb ?_
  replace hS:=hS.ent (i:=34) (s':=.pv (.int .i64 ((i+1:Nat):Int))) rfl (.int (Ze (by omega)))
  obtain ⟨F,hS⟩:=hS.nm [33,32,5,4,2,1,34] [101,0,102] rfl rfl
  exact ⟨(i+1),F,⟨by omega,trivial⟩,hS,by omega⟩
 have hil:i=(commandsC g).length:=by simp at hc3;omega
 refine wp_exit (Zj (Zj (Zp (Zb (wp_seq ?_)))))
 refine Za hS (qe 2 102 r1 r1 (qe 2 101 r1 r1 (qf (oP (Zpi _ _) Tryz.func30 (Args.two (.pagg .t) (.pagg .t))) r2 qz (qN rfl rfl qZ)))) hB [2] [102,101,0] rfl rfl fun a w F hS=>Zb (wp_ret ?_)
 refine Zq hfr hS rfl rfl rfl (.bool (by first | rfl | (rw [hil,ZmF hf];simp)))
end Go.Proofs.YtjhapicamnijnaaGreat
