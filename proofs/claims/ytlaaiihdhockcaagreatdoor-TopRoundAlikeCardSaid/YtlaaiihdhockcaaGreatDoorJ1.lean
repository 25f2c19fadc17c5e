/- Laws and walks. No condition beyond what each says. -/
import Derived.Test.YtlaaiihdhockcaaGreatDoorJ0
import Derived.Test.YtlaaiihdhockcaaGreatDoorLibG
namespace Go.Proofs.YtlaaiihdhockcaaGreatDoor
open Go Go.Gm Tryz
set_option linter.unusedVariables false
set_option linter.unusedSimpArgs false
set_option maxHeartbeats 4000000
set_option maxRecDepth 8000
theorem copy_c (n:Nat) (x:List Int):FnG prog 27 1 [setR n x] [gH Zez ZfU] (PV.ptr) (fun v=>[Z0 v n x]):=by
 refine FnG.mk func27 V ntmps27 V kr fun B F0 a w F J hG G=>?_
 have hup:=Sat.setRup G (i:=0) rfl
 have hhi:=hup.1
 refine Ya (rZ G (qC qZ) J [2,0] [1,0] fun G=>Ya ?_)
 refine Ze G (qR rr (qf (oP (ZpD n x) func53 (Args.one .t)) r1 qz (qf (Zak 1 (Ze1 _) func21 V kr (Args.one .t) PV.ptr_one) r1 r1 (qO rr qZ)))) J [3,2,0] [1,0] (fun _=>rfl) (fun _=>rfl) fun τ a w F G=>?_
 try dsimp only [RS.sub,SF.sub,CF.sub,csub,Anc.sub,List.map] at G
 generalize τ 6=v6 at G
 obtain ⟨_,_,_,ho⟩:=G.obGet 1 rfl
 obtain ⟨b,rfl⟩:=ZbK ho
 clear ho
 replace G:=G.turn 1 V (r':=RS.hp (Z0 (.pointer (some ⟨b,0,none⟩)) (rowN (n:Int)) [])) (fun _ _ _ _ h=>h)
 obtain ⟨F,G⟩:=G.nM [3,2,0] [1,0]
 rw [ZbL hup.1] at G
 refine Za (Ya (Zb G (qR rr (qR rr (qf (o_callG1 1 (ZpG b n [] n x) func28 V kr (Args.two .t .t)) r2 r1 qZ))) J [3,2] [1,0] V V fun a w F G=>?_))
 rw [Zol hup.2] at G
 refine Za (Ya (rZ G (qR rr (qO rr qZ)) J [2] [1,0] fun G=>Yl ?_))
 refine ZU (h':=fun v=>Z0 v n x) hG G V (.tmp V .nil) (.one .ptr) rfl
theorem ZnN (n m:Nat) (ws us:List Int) (hI:ZP n ws) (hK:ZP m us):FnP prog 32 [.ref [.int .i64 n,.sl rU64 ws],.ref [.int .i64 m,.sl rU64 us]] (.bool (decide (n=m∧ws=us))):=by
 refine FnP.mk func32 V ntmps32 V fun B a w F J hfr G=>Ya ?_
 refine rZ G qB J [4,1,0] [0] fun G=>(Ya (Ya ?_))
 refine rZ G (qR rr (qf (oP (ZhY n _) func53 (Args.one .t)) r1 qz (qR rr (qf (oP (ZhY m _) func53 (Args.one .t)) r1 qz (qf (o_neq .t .t) r2 qz qZ))))) J [10,4,1,0] [0] fun G=>?_
 refine Zc G V (fun hc0=>?_) (fun hc0=>?_)
 ·have hg:false=decide (n=m∧ws=us):=by rw [YaA,YR];rintro ⟨rfl,_⟩;simp at hc0
  refine Ya (rZ G qB J [4,1,0] [0] fun G=>(Yl (Zw ?_)))
  refine Zz hfr G V V V (.bool hg)
 have hnm:n=m:=by simp at hc0;omega
 have hlu:us.length=ws.length:=by rw [hI.len,hK.len,hnm]
 have hll:ws.length≤9223372036854775807:=by have:=hI.len;have:=hI.hi;omega
 refine Yg (Za (Ya (Ya (rZ G (qR rr (qf (Zab underlying51 .t) r1 qz (qR rr (qm V V V V (qk V (fun h=>Zab underlying51 (.w h)) r2 qz (qf (Zaa .t .t) r2 qz qZ)))))) J [16,4,1,0] [0] fun G=>?_))))
 refine Zc G V (fun hc1=>?_) (fun hc1=>?_)
 ·simp at hc1
 refine Yg (Za (Ya (Ya (rZ G (qR rr (qf (o_nilCheck_ref .t) r1 qz (qf (oG 1 .t) r1 qz (qf (oR false 1 .t) r1 qz (qu YbD r1 (qJ qZ)))))) J [22,21,4,1,0] [0] fun G=>Yk ?_))))
 refine Zl (σ:=(Nat)) [0,1,4,21] [0] (fun s=>[(22,.pv (.int .i64 (s:Int)))]) (fun s=>[]) (fun s=>s≤ws.length∧(∀ j,j<s→Nn ws j=Nn us j)) (fun s=>ws.length - s) (0) G ⟨rfl,rfl,rfl,rfl,rfl,tv⟩ ⟨rfl,tv⟩ ⟨YA _,fun j hj=>absurd hj (YaH j)⟩ ?_
 clear G;intro i a w F hC G
 try dsimp only at hC
 obtain ⟨F,G⟩:=G.nM [22,21,4,1,0] [0]
 try dsimp only at G
 obtain ⟨hi,hq⟩:=hC
 refine Ya (rZ G (qL r2) J [23,22,21,4,1,0] [0] fun G=>Ya ?_)
 refine Zc G V (fun hc2=>?_) (fun hc2=>?_)
 ·have hil:i<ws.length:=by simp at hc2;omega
  refine Yg (Za (Ya (Yk (Ya (rZ G (qR rr (qO rr qZ)) J [22,21,5,4,1,0] [0] fun G=>Ya ?_)))))
  refine Zp G (qR rr (qf (o_nilCheck_ref .t) r1 qz (qf (oG 1 .t) r1 qz (qf (oR false 1 .t) r1 qz (qR rr (qf (o_indexAddr_sl (sz:=1) (.mk YbD kr) (by intro x;rfl) .t .t (by first | assumption | omega) (by first | assumption | omega)) r2 qz (qf (oR false 1 .t) r1 qz (qR rr (qf (o_nilCheck_ref .t) r1 qz (qf (oG 1 .t) r1 qz (qf (oR false 1 .t) r1 qz (qR rr (qy 1 YbD r2 (qf (oR false 1 .t) r1 qz (qf (o_neq .t .t) r2 qz qZ))))))))))))))) J [39,22,21,4,1,0] [0] V V fun a w F G=>?_
  try dsimp only [List.map,xD,xE,xT,xU,ldSF] at G
  try simp only [Yb] at G
  refine Za (Zc G V (fun hc3=>?_) (fun hc3=>?_))
  ·have hg:false=decide (n=m∧ws=us):=by
    rw [YaA,YR]
    rintro ⟨_,rfl⟩
    simp at hc3
   refine Ya (rZ G qB J [22,21,4,1,0] [0] fun G=>(Yl (Z6 (Zw (Zw (Z6 (Zw ?_)))))))
   refine Zz hfr G V V V (.bool hg)
  have hqi:Nn ws i=Nn us i:=by simpa using hc3
  refine Yg (Zi (Za (rZ G (qp r1 (qR rr qZ)) J [22,21,4,1,0] [0] fun G=>?_)))
  replace G:=G.ent (i:=22) (s':=.pv (.int .i64 ((i+1:Nat):Int))) V (.int (Zf ow))
  obtain ⟨F,G⟩:=G.nM [21,4,1,0,22] [0]
  exact ⟨(i+1),F,⟨by omega,fun j hj=>by rcases YaU (Ybf hj) with h | h;exact hq j h;rw [h];exact hqi⟩,G,by omega⟩
 have hil:i=ws.length:=by simp at hc2;omega
 have hg:true=decide (n=m∧ws=us):=by
   rw [YaA,Yn]
   exact ⟨hnm,Zcj hlu.symm fun j hj=>hq j ow⟩
 refine YI (Zm (Zm (Zu (Za (Ya (rZ G qB J [4] [0] fun G=>Yl ?_))))))
 refine Zz hfr G V V V (.bool hg)
theorem Zof (n m:Nat) (x z:List Int):FnP prog 32 [setR n x,setR m z] (.bool (decide (n=m∧x=z))):=FnP.ofWords2 fun ws us hs ks=>by
 have e:decide (n=m∧x=z)=decide (n=m∧ws=us):=by
  rw [YQ]
  constructor
  ·rintro ⟨rfl,h⟩;exact ⟨rfl,by have:=hs.same ks;rw [YQ] at this;exact this.2 h⟩
  ·rintro ⟨rfl,h⟩;exact ⟨rfl,by have:=hs.same ks;rw [YQ] at this;exact this.1 h⟩
 rw [e];exact (ZnN n m ws us hs.ok ks.ok).glob
section
variable {out t T:List Int} {x e:Int} {d:Bool}
end
theorem ZpN (l:List Int) (x:Int) (hl:l.length≤1000000):FnP prog 19 [.sl Zk l,.int .i64 x] (.bool (decide (x ∈ l))):=by
 refine FnP.mk func19 V ntmps19 V fun B a w F J hfr G=>Ya ?_
 refine rZ G qB J [4,1,0] [0] fun G=>(Ya (Ya ?_))
 refine rZ G (qR rr (qu YbA r1 (qJ qZ))) J [9,8,7,4,1] [0] fun G=>Yk ?_
 refine Zl (σ:=(Nat)) [1,4,7,8] [0] (fun s=>[(9,.pv (.int .i64 (s:Int)))]) (fun s=>[]) (fun s=>s≤l.length∧(decide (x ∈ l.drop s)=decide (x ∈ l))) (fun s=>l.length - s) (0) G ⟨rfl,rfl,rfl,rfl,rfl,tv⟩ ⟨rfl,tv⟩ ⟨YA _,rfl⟩ ?_
 clear G;intro i a w F hC G
 try dsimp only at hC
 obtain ⟨F,G⟩:=G.nM [9,8,7,4,1] [0]
 try dsimp only at G
 obtain ⟨hi,hq⟩:=hC
 refine Ya (rZ G (qL r2) J [10,9,8,7,4,1] [0] fun G=>Ya ?_)
 refine Zc G V (fun hc0=>?_) (fun hc0=>?_)
 ·have hil:i<l.length:=by simp at hc0;omega
  refine Yg (Za (Ya (Yk (Ya (Zb G (qf (o_indexAddr_sl (sz:=1) (.mk YbA kr) (by intro x;rfl) .t .t (by first | assumption | omega) (by first | assumption | omega)) r2 qz (qf (oR false 1 .t) r1 qz (qO rr qZ))) J [9,8,7,6,4,1] [0] V V fun a w F G=>?_)))))
  try simp only [Yb] at G
  refine Za (Ya (rZ G (qR rr (qR rr (qf (o_eql .t .t) r2 qz qZ))) J [15,9,8,7,4,1] [0] fun G=>?_))
  refine Zc G V (fun hc1=>?_) (fun hc1=>?_)
  ·have hBq:Nn l i=x:=by simpa using hc1
   have hg:true=decide (x ∈ l):=by rw [← hq,Zfg hil,hBq];simp
   refine Ya (rZ G qB J [9,8,7,4,1] [0] fun G=>(Yl (Z6 (Zw (Zw (Z6 (Zw ?_)))))))
   refine Zz hfr G V V V (.bool hg)
  have hBq:¬ Nn l i=x:=by simpa using hc1
  refine Yg (Zi (Za (rZ G (qp r1 (qR rr qZ)) J [9,8,7,4,1] [0] fun G=>?_)))
  replace G:=G.ent (i:=9) (s':=.pv (.int .i64 ((i+1:Nat):Int))) V (.int (Zf ow))
  obtain ⟨F,G⟩:=G.nM [8,7,4,1,9] [0]
  exact ⟨(i+1),F,⟨by omega,(by rw [Zfg hil] at hq;rw [← hq,YQ,Yh];exact ⟨.inr,fun h=>h.resolve_left fun e=>hBq e.symm⟩)⟩,G,by omega⟩
 have hil:i=l.length:=by simp at hc0;omega
 have hg:false=decide (x ∈ l):=by rw [← hq,hil,List.drop_length];simp
 refine YI (Zm (Zm (Zu (Za (Ya (rZ G qB J [4] [0] fun G=>Yl ?_))))))
 refine Zz hfr G V V V (.bool hg)
theorem FnG.readNewG {f:FuncId} {args:List PV} {v:Value} {n m:Nat} {x z:List Int} (hc:FnG prog f 1 (setR n x :: args) [gH Zez ZfU] PV.ptr (fun u=>[Z0 u m z])):FnG prog f 2 (.is v :: args) [Z0 v n x,HP.star []] PV.ptr (fun u=>[Z0 v n x,Z0 u m z]):=fun w F vs hw hle hv hp=>by
 have hset:=hp 0 _ rfl
 have hemp:=hp 1 _ rfl
 match vs,hv with
 | u :: us,hv=>
  obtain ⟨rfl,_⟩:=hv.1
  let F2:Fp:=fun k=>if k=0 then F 0 else fun _=>False
  have hconv:∀ k b,F2 k b→k=0∧F 0 b:=fun k b hk=>by
   by_cases e:k=0
   ·subst e;exact ⟨rfl,by simpa [F2] using hk⟩
   ·simp [F2,e] at hk
  have h2:∀ b,U F2 b→U F b:=fun b ⟨k,hk⟩=>⟨0,(hconv k b hk).2⟩
  have hn1:∀ b,F 1 b→¬ U F2 b:=fun b hb ⟨k,hk⟩=>by have:=hw.dis 0 1 b (hconv k b hk).2 hb;omega
  have hr:=setH_lend w (F 1) (U F) (U F2) hset h2 hn1 (fun b hb=>hw.bd 1 b hb)
  obtain ⟨_,_,_,htab⟩:=ZQ.1 hset
  have hw2:Wf F2 w:=⟨fun i j b hi hj=>by rw [(hconv i b hi).1,(hconv j b hj).1],fun k b hk=>hw.bd 0 b (hconv k b hk).2⟩
  refine (hc w F2 (u :: us) hw2 (fun k b hk=>by have:=(hconv k b hk).1;omega) ⟨hr,PVt.mono (Ev.less w h2) hv.2⟩ (fun i k hi=>by
   match i,hi with
   | 0,hi=>simp at hi;subst hi;exact ⟨fun b hb=>by simp [F2] at hb,PV.mono _ (Ev.less w h2) htab⟩)).mono ?_
  rintro e w' ⟨t,F',rfl,a1,a2,a3,a4,a5⟩
  have hnew:=a5 0 _ rfl
  have hfresh:∀ b,F' 1 b→w.heap.size≤b:=fun b hb=>by
   rcases a2.fnew 1 (by simp) b hb with ⟨k,hk,hkb⟩ | h
   ·simp at hk;subst hk;simp [F2] at hkb
   ·exact h
  have hkeep:∀ b,b<w.heap.size→w'.heap[b]? = w.heap[b]?:=fun b hb=>a2.keep b hb (fun k hk hkb=>by simp at hk;subst hk;simp [F2] at hkb)
  let F3:Fp:=fun k=>if k=0 then F 0 else if k=1 then F 1 else if k=2 then F' 1 else fun _=>False
  have e0:F3 0=F 0:=by simp [F3]
  have e1:F3 1=F 1:=by simp [F3]
  have e2:F3 2=F' 1:=by simp [F3]
  have hF3:∀ k b,F3 k b→(k=0∧F 0 b)∨(k=1∧F 1 b)∨(k=2∧F' 1 b):=fun k b hk=>by
   by_cases c0:k=0
   ·subst c0;rw [e0] at hk;exact .inl ⟨rfl,hk⟩
   ·by_cases c1:k=1
    ·subst c1;rw [e1] at hk;exact .inr (.inl ⟨rfl,hk⟩)
    ·by_cases c2:k=2
     ·subst c2;rw [e2] at hk;exact .inr (.inr ⟨rfl,hk⟩)
     ·simp [F3,c0,c1,c2] at hk
  have hw3:Wf F3 w':=⟨fun i j b hi hj=>by
    rcases hF3 i b hi with ⟨rfl,h1⟩ | ⟨rfl,h1⟩ | ⟨rfl,h1⟩ <;> rcases hF3 j b hj with ⟨rfl,k1⟩ | ⟨rfl,k1⟩ | ⟨rfl,k1⟩
    ·rfl
    ·exact hw.dis 0 1 b h1 k1
    ·have:=hfresh b k1;have:=hw.bd 0 b h1;omega
    ·exact hw.dis 1 0 b h1 k1
    ·rfl
    ·have:=hfresh b k1;have:=hw.bd 1 b h1;omega
    ·have:=hfresh b h1;have:=hw.bd 0 b k1;omega
    ·have:=hfresh b h1;have:=hw.bd 1 b k1;omega
    ·rfl,fun k b hk=>by
    rcases hF3 k b hk with ⟨_,h1⟩ | ⟨_,h1⟩ | ⟨_,h1⟩
    ·exact YU (hw.bd 0 b h1) a2.size
    ·exact YU (hw.bd 1 b h1) a2.size
    ·exact a1.bd 1 b h1⟩
  have hev:Ev w (U F) w' (U F3):=⟨a2.os,a2.tape,a2.output,a2.size,fun b hb hnb=>⟨hkeep b hb,fun ⟨k,hk⟩=>hnb (by
   rcases hF3 k b hk with ⟨_,h1⟩ | ⟨_,h1⟩ | ⟨_,h1⟩
   ·exact ⟨0,h1⟩
   ·exact ⟨1,h1⟩
   ·have:=hfresh b h1;omega)⟩⟩
  have hst3:Stp (List.range' 1 2) w F w' F3:=⟨a2.os,a2.tape,a2.output,a2.size,fun b hb _=>hkeep b hb,fun k hk=>by
    simp at hk
    by_cases c0:k=0
    ·subst c0;exact e0
    ·funext b
     refine propext ⟨fun h=>?_,fun h=>?_⟩
     ·rcases hF3 k b h with ⟨c,_⟩ | ⟨c,_⟩ | ⟨c,_⟩ <;> omega
     ·have:=hle k b h;omega,fun k hk b hb=>by
    rcases hF3 k b hb with ⟨c,h1⟩ | ⟨c,h1⟩ | ⟨c,h1⟩
    ·subst c;simp at hk
    ·exact .inl ⟨1,by simp,h1⟩
    ·exact .inr (hfresh b h1)⟩
  refine ⟨t,F3,rfl,hw3,hst3,fun k b hk=>by rcases hF3 k b hk with ⟨c,_⟩ | ⟨c,_⟩ | ⟨c,_⟩ <;> omega,a4,fun i k hi=>?_⟩
  match i,hi with
  | 0,hi=>
   simp at hi;subst hi
   obtain ⟨ws,k1,k2,k3⟩:=ZQ.1 hset
   rw [show (0:Nat)+1=1 from rfl,e1]
   exact ZQ.2 ⟨ws,k1,(Zay _ n ws).st hev (fun b hb=>hkeep b (hw.bd 1 b hb)) k2,Zez.mono hev k3⟩
  | 1,hi=>
   simp at hi;subst hi
   obtain ⟨ws',g1,g2,g3⟩:=ZQ.1 hnew
   rw [show (1:Nat)+1=2 from rfl,e2]
   exact ZQ.2 ⟨ws',g1,ZeR _ _ _ _ _ _ _ g2,Zez.mono hev htab⟩
structure ZpP where
 kind:Int
 other:Bool
 i:Int
 on:Bool
 deriving DecidableEq,Inhabited
theorem copy_n (v:Value) (n:Nat) (x:List Int):FnG prog 27 2 [.is v] [Z0 v n x,HP.star []] PV.ptr (fun u=>[Z0 v n x,Z0 u n (x)]):=FnG.readNewG (copy_c n x)
structure PairD where
 key:Int
 val:Int
 deriving DecidableEq,Inhabited
def ZdZ (p:PairD):List PV:=[.int .i64 p.key,.int .i64 p.val]
section
variable {out t T:List PairD} {k x:Int} {e:PairD} {d:Bool}
end
def ZeC (n:Int):List Int→Bool→List Int
 | [],d=>if d then [] else [n]
 | x :: l,d=>(if d=false∧n≤x then [n] else [])++(if x=n then [] else [x])++ZeC n l (d || decide (n≤x))
def ZgG (l:List Int) (n:Int):List Int:=ZeC n l false
abbrev Zdf (l:List Int):Prop:=l.Pairwise fun a b=>a<b
theorem ZcX {n:Int} : ∀ {l:List Int},(∀ x ∈ l,n<x)→ZeC n l true=l
 | [],_=>rfl
 | x :: l,h=>by
  have:=h x (by simp)
  rw [ZeC,Bool.true_or,ZcX fun y hy=>h y (by simp [hy]),Ye (by simp),Ye ow]
  rfl
theorem ZbM {n:Int} : ∀ {l:List Int},Zdf l→Zdf (ZgG l n) ∧ ∀ x,x ∈ ZgG l n ↔ x ∈ l∨x=n
 | [],_=>by simp [ZgG,ZeC]
 | y :: l,h=>by
  have h':=Yq.1 h
  unfold ZgG
  by_cases h1:y<n
  ·have e:ZeC n (y :: l) false=y :: ZeC n l false:=by
    rw [ZeC,Ye ow,Ye ow,show (false || decide (n≤y))=false by simp;omega];rfl
   have ih:=ZbM (n:=n) h'.2
   rw [e]
   refine ⟨Yq.2 ⟨fun p hp=>?_,ih.1⟩,fun x=>?_⟩
   ·rcases (ih.2 p).1 hp with hp | rfl
    ·exact h'.1 p hp
    ·exact h1
   ·have:=ih.2 x
    unfold ZgG at this
    simp only [Yh,this]
    constructor
    ·rintro (h | h | h)
     ·exact .inl (.inl h)
     ·exact .inl (.inr h)
     ·exact .inr h
    ·rintro ((h | h) | h)
     ·exact .inl h
     ·exact .inr (.inl h)
     ·exact .inr (.inr h)
  ·by_cases h2:y=n
   ·subst h2
    rw [ZeC,Yf ⟨rfl,Yak _⟩,Yf rfl,show (false || decide (y≤y))=true by simp,ZcX h'.1]
    exact ⟨h,fun x=>by simp;intro e;exact .inl e⟩
   ·rw [ZeC,Yf ⟨rfl,by omega⟩,Ye h2,show (false || decide (n≤y))=true by simp;omega,ZcX fun x hx=>by have:=h'.1 x hx;omega]
    refine ⟨Yq.2 ⟨fun p hp=>?_,h⟩,fun x=>by simp;constructor <;> (rintro (h | h | h) <;> simp [h])⟩
    rcases Yh.1 hp with rfl | hp
    ·omega
    ·have:=h'.1 p hp;omega
def Zf3 (l:List Int):List Int:=l.foldl ZgG []
theorem Za6 (l:List Int):Zdf (Zf3 l) ∧ ∀ x,x ∈ Zf3 l ↔ x ∈ l:=by
 have key:∀ (l acc:List Int),Zdf acc→Zdf (l.foldl ZgG acc) ∧ ∀ x,x ∈ l.foldl ZgG acc ↔ x ∈ acc∨x ∈ l:=by
  intro l
  induction l with
  | nil=>intro acc h;exact ⟨h,fun x=>by simp⟩
  | cons y l ih=>
   intro acc h
   have h1:=ZbM (n:=y) h
   have h2:=ih (ZgG acc y) h1.1
   refine ⟨h2.1,fun x=>?_⟩
   rw [Ybd,h2.2 x,h1.2 x,Yh]
   constructor
   ·rintro ((h | h) | h)
    ·exact .inl h
    ·exact .inr (.inl h)
    ·exact .inr (.inr h)
   ·rintro (h | h | h)
    ·exact .inl (.inl h)
    ·exact .inl (.inr h)
    ·exact .inr h
 have:=key l [] List.Pairwise.nil
 exact ⟨this.1,fun x=>by rw [show Zf3 l=l.foldl ZgG [] from rfl,this.2 x];simp⟩
theorem ZcT:∀ {a b:List Int},Zdf a→Zdf b→(∀ x,x ∈ a ↔ x ∈ b)→a=b
 | [],[],_,_,_=>rfl
 | [],y :: b,_,_,h=>by have:=(h y).2 (by simp);cases this
 | x :: a,[],_,_,h=>by have:=(h x).1 (by simp);cases this
 | x :: a,y :: b,ha,hb,h=>by
  have ha':=Yq.1 ha
  have hb':=Yq.1 hb
  have e:x=y:=by
   rcases Yh.1 ((h x).1 (by simp)) with e | e
   ·exact e
   ·rcases Yh.1 ((h y).2 (by simp)) with e2 | e2
    ·exact e2.symm
    ·have:=hb'.1 x e;have:=ha'.1 y e2;omega
  subst e
  congr 1
  refine ZcT ha'.2 hb'.2 fun z=>⟨fun hz=>?_,fun hz=>?_⟩
  ·rcases Yh.1 ((h z).1 (by simp [hz])) with e | e
   ·have:=ha'.1 z hz;omega
   ·exact e
  ·rcases Yh.1 ((h z).2 (by simp [hz])) with e | e
   ·have:=hb'.1 z hz;omega
   ·exact e
structure STO {α:Type} (lt:α→α→Bool):Prop where
 irr:∀ a,lt a a=false
 tr:∀ a b c,lt a b=true→lt b c=true→lt a c=true
 tot:∀ a b,lt a b=false→lt b a=false→a=b
section
variable {α:Type} {lt:α→α→Bool}
theorem STO.ne (h:STO lt) {a b:α} (k:lt a b=true):a≠b:=fun e=>by subst e;rw [h.irr] at k;cases k
abbrev ZoV (lt:α→α→Bool) (l:List α):Prop:=l.Pairwise fun a b=>lt a b=true
variable [DecidableEq α]
def ZbU (lt:α→α→Bool) (e:α):List α→Bool→List α
 | [],d=>if d then [] else [e]
 | x :: l,d=>(if d=false∧lt x e=false then [e] else [])++(if x=e then [] else [x])++ZbU lt e l (d || !lt x e)
def ZjO (lt:α→α→Bool) (l:List α) (e:α):List α:=ZbU lt e l false
theorem Zgu (lt:α→α→Bool) (e:α):∀ (l:List α) (d:Bool),(ZbU lt e l d).length≤l.length+(if d then 0 else 1)
 | [],d=>by cases d <;> simp [ZbU]
 | x :: l,d=>by
  have ih:=Zgu lt e l (d || !lt x e)
  have h1:(if x=e then ([]:List α) else [x]).length≤1:=by split <;> simp
  have h2:(if d=false∧lt x e=false then [e] else ([]:List α)).length+(if (d || !lt x e)=true then 0 else 1)≤if d=true then 0 else 1:=by
   cases d <;> cases lt x e <;> simp
  rw [ZbU,Yc,Yc,Yx]
  omega
theorem ZcL (h:STO lt) {e:α} : ∀ {l:List α},(∀ x ∈ l,lt e x=true)→ZbU lt e l true=l
 | [],_=>rfl
 | x :: l,k=>by
  have h1:=k x (by simp)
  rw [ZbU,Bool.true_or,ZcL h fun y hy=>k y (by simp [hy]),Ye (by simp),Ye (h.ne h1).symm]
  rfl
theorem Zik (h:STO lt) {e:α} : ∀ {l:List α},ZoV lt l→ZoV lt (ZjO lt l e) ∧ ∀ x,x ∈ ZjO lt l e ↔ x ∈ l∨x=e
 | [],_=>by simp [ZjO,ZbU]
 | y :: l,k=>by
  have h':=Yq.1 k
  unfold ZjO
  cases h1:lt y e with
  | true=>
   have e1:ZbU lt e (y :: l) false=y :: ZbU lt e l false:=by
    rw [ZbU,Ye (by rw [h1];simp),Ye (h.ne h1),h1];rfl
   have ih:=Zik h (e:=e) h'.2
   rw [e1]
   refine ⟨Yq.2 ⟨fun p hp=>?_,ih.1⟩,fun x=>?_⟩
   ·rcases (ih.2 p).1 hp with hp | rfl
    ·exact h'.1 p hp
    ·exact h1
   ·have:=ih.2 x
    unfold ZjO at this
    simp only [Yh,this,or_assoc]
  | false=>
   by_cases h2:y=e
   ·subst h2
    rw [ZbU,Yf ⟨rfl,h1⟩,Yf rfl,h1,show (false || !false)=true from rfl,ZcL h h'.1]
    exact ⟨k,fun x=>by simp;intro e;exact .inl e⟩
   ·have h3:lt e y=true:=by
     cases e3:lt e y with
     | true=>rfl
     | false=>exact absurd (h.tot y e h1 e3) h2
    rw [ZbU,Yf ⟨rfl,h1⟩,Ye h2,h1,show (false || !false)=true from rfl,ZcL h fun x hx=>h.tr e y x h3 (h'.1 x hx)]
    refine ⟨Yq.2 ⟨fun p hp=>?_,k⟩,fun x=>by simp;constructor <;> (rintro (h | h | h) <;> simp [h])⟩
    rcases Yh.1 hp with rfl | hp
    ·exact h3
    ·exact h.tr e y p h3 (h'.1 p hp)
def Znd (lt:α→α→Bool) (l:List α):List α:=l.foldl (ZjO lt) []
theorem ZgM (h:STO lt) (l:List α):ZoV lt (Znd lt l) ∧ ∀ x,x ∈ Znd lt l ↔ x ∈ l:=by
 have key:∀ (l acc:List α),ZoV lt acc→ZoV lt (l.foldl (ZjO lt) acc) ∧ ∀ x,x ∈ l.foldl (ZjO lt) acc ↔ x ∈ acc∨x ∈ l:=by
  intro l
  induction l with
  | nil=>intro acc k;exact ⟨k,fun x=>by simp⟩
  | cons y l ih=>
   intro acc k
   have h1:=Zik h (e:=y) k
   have h2:=ih (ZjO lt acc y) h1.1
   refine ⟨h2.1,fun x=>?_⟩
   rw [Ybd,h2.2 x,h1.2 x,Yh,or_assoc]
 have:=key l [] List.Pairwise.nil
 exact ⟨this.1,fun x=>by rw [show Znd lt l=l.foldl (ZjO lt) [] from rfl,this.2 x];simp⟩
end
inductive Rch (E:Int→Int→Prop) (u:Int):Int→Prop
 | one {v:Int} (h:E u v):Rch E u v
 | step {v w:Int} (h:Rch E u v) (k:E v w):Rch E u w
theorem Rch.trans {E:Int→Int→Prop} {u v w:Int} (h:Rch E u v) (k:Rch E v w):Rch E u w:=by
 induction k with
 | one k=>exact .step h k
 | step _ k ih=>exact .step ih k
theorem Rch.mono {E E':Int→Int→Prop} (hE:∀ a b,E a b→E' a b) {u v:Int} (h:Rch E u v):Rch E' u v:=by
 induction h with
 | one h=>exact .one (hE _ _ h)
 | step _ k ih=>exact .step ih (hE _ _ k)
theorem Rch.congr {E E':Int→Int→Prop} (hE:∀ a b,E a b ↔ E' a b) {u v:Int} : Rch E u v ↔ Rch E' u v:=⟨Rch.mono fun a b=>(hE a b).1,Rch.mono fun a b=>(hE a b).2⟩
theorem Rch.last {E:Int→Int→Prop} {u v:Int} (h:Rch E u v):∃ a,E a v:=by
 cases h with
 | one h=>exact ⟨_,h⟩
 | step _ k=>exact ⟨_,k⟩
theorem Rch.add {E E':Int→Int→Prop} {u v:Int} (hE:∀ a b,E' a b ↔ E a b∨(a=u∧b=v)) {a b:Int} : Rch E' a b ↔ Rch E a b∨((a=u∨Rch E a u)∧(b=v∨Rch E v b)):=by
 have hm:∀ {x y:Int},Rch E x y→Rch E' x y:=fun h=>h.mono fun a b k=>(hE a b).2 (.inl k)
 have huv:E' u v:=(hE u v).2 (.inr ⟨rfl,rfl⟩)
 constructor
 ·intro h
  induction h with
  | one h=>
   rcases (hE _ _).1 h with h | ⟨rfl,rfl⟩
   ·exact .inl (.one h)
   ·exact .inr ⟨.inl rfl,.inl rfl⟩
  | step _ k ih=>
   rcases (hE _ _).1 k with k | ⟨rfl,rfl⟩
   ·rcases ih with h | ⟨h1,h2⟩
    ·exact .inl (.step h k)
    ·refine .inr ⟨h1,.inr ?_⟩
     rcases h2 with rfl | h2
     ·exact .one k
     ·exact .step h2 k
   ·rcases ih with h | ⟨h1,h2⟩
    ·exact .inr ⟨.inr h,.inl rfl⟩
    ·exact .inr ⟨h1,.inl rfl⟩
 ·rintro (h | ⟨h1,h2⟩)
  ·exact hm h
  ·have h3:Rch E' a v:=by
    rcases h1 with rfl | h1
    ·exact .one huv
    ·exact .step (hm h1) huv
   rcases h2 with rfl | h2
   ·exact h3
   ·exact h3.trans (hm h2)
theorem Rch.add_same {E E':Int→Int→Prop} {u v:Int} (hE:∀ a b,E' a b ↔ E a b∨(a=u∧b=v)) (h:Rch E u v) {a b:Int} : Rch E' a b ↔ Rch E a b:=by
 rw [Rch.add hE]
 constructor
 ·rintro (k | ⟨h1,h2⟩)
  ·exact k
  ·have h3:Rch E a v:=by
    rcases h1 with rfl | h1
    ·exact h
    ·exact h1.trans h
   rcases h2 with rfl | h2
   ·exact h3
   ·exact h3.trans h2
 ·exact .inl
theorem Rch.drop_same {E E':Int→Int→Prop} {u v:Int} (hE:∀ a b,E a b ↔ E' a b∨(a=u∧b=v)) {a b:Int} (ha:¬ (a=u∨Rch E a u)):Rch E' a b ↔ Rch E a b:=by
 have hm:∀ {x y:Int},Rch E' x y→Rch E x y:=fun h=>h.mono fun a b k=>(hE a b).2 (.inl k)
 rw [Rch.add hE]
 constructor
 ·exact .inl
 ·rintro (k | ⟨h1,_⟩)
  ·exact k
  ·exact absurd (h1.imp id hm) ha
structure ZT where
 src:Int
 dst:Int
 kind:Int
 label:Int
 deriving DecidableEq,Inhabited
def ZbD (a:ZT):List PV:=[.int .i64 a.src,.int .i64 a.dst,.int .i64 a.kind,.int .i64 a.label]
def Zj8 (a b:ZT):Bool:=decide (a.src<b.src) || (decide (a.src=b.src) && (decide (a.kind<b.kind) || (decide (a.kind=b.kind) && (decide (a.label<b.label) || (decide (a.label=b.label) && decide (a.dst<b.dst))))))
theorem Zi6 (a b:ZT):Zj8 a b=true ↔ a.src<b.src∨a.src=b.src∧(a.kind<b.kind∨a.kind=b.kind∧(a.label<b.label∨a.label=b.label∧a.dst<b.dst)):=by
 unfold Zj8
 simp only [Yar,YB,Yn]
theorem Zi5 (a b:ZT):Zj8 a b=false ↔ ¬ (a.src<b.src∨a.src=b.src∧(a.kind<b.kind∨a.kind=b.kind∧(a.label<b.label∨a.label=b.label∧a.dst<b.dst))):=by rw [← Zi6];cases Zj8 a b <;> simp
theorem Zh4:STO Zj8 where
 irr a:=by rw [Zi5];omega
 tr a b c h1 h2:=by rw [Zi6] at *;omega
 tot a b h1 h2:=by
  rw [Zi5] at *
  obtain ⟨s,d,k,l⟩:=a
  obtain ⟨s2,d2,k2,l2⟩:=b
  simp only [ZT.mk.injEq] at *
  omega
def EA (l:List ZT) (a b:Int):Prop:=∃ x ∈ l,x.src=a∧x.dst=b
def Za0 (from_:Int) (o:List Int) (a:ZT):List Int:=if a.src=from_ then ZgG o a.dst else o
def ZgN (l:List ZT) (u:Int):List Int:=l.foldl (Za0 u) []
def Zch (o:List Int) (a:ZT):List Int:=if a.src ∈ o∧a.dst ∉ o then ZgG o a.dst else o
def Zah (l:List ZT) (o:List Int):List Int:=l.foldl Zch o
def Zcd (l:List ZT):Nat→List Int→List Int
 | 0,o=>o
 | n+1,o=>Zah l (Zcd l n o)
def Zd3 (l:List ZT) (u:Int):List Int:=Zcd l (l.length+1) (ZgN l u)
theorem Ze3 (u:Int):∀ (l:List ZT) (o:List Int),Zdf o→Zdf (l.foldl (Za0 u) o) ∧ ∀ v,v ∈ l.foldl (Za0 u) o ↔ v ∈ o∨EA l u v
 | [],o,h=>⟨h,fun v=>⟨.inl,fun k=>by rcases k with k | ⟨x,hx,_⟩;exact k;cases hx⟩⟩
 | a :: l,o,h=>by
  have h1:Zdf (Za0 u o a) ∧ ∀ v,v ∈ Za0 u o a ↔ v ∈ o∨(a.src=u∧a.dst=v):=by
   unfold Za0
   split
   ·rename_i e
    refine ⟨(ZbM h).1,fun v=>?_⟩
    rw [(ZbM h).2]
    constructor
    ·rintro (k | k)
     ·exact .inl k
     ·exact .inr ⟨e,k.symm⟩
    ·rintro (k | k)
     ·exact .inl k
     ·exact .inr k.2.symm
   ·rename_i e
    exact ⟨h,fun v=>⟨.inl,fun k=>by rcases k with k | k;exact k;exact absurd k.1 e⟩⟩
  obtain ⟨h2,h3⟩:=Ze3 u l (Za0 u o a) h1.1
  refine ⟨h2,fun v=>?_⟩
  rw [Ybd,h3,h1.2]
  constructor
  ·rintro ((k | k) | ⟨x,hx,k⟩)
   ·exact .inl k
   ·exact .inr ⟨a,by simp,k⟩
   ·exact .inr ⟨x,by simp [hx],k⟩
  ·rintro (k | ⟨x,hx,k⟩)
   ·exact .inl (.inl k)
   ·rcases Yh.1 hx with rfl | hx
    ·exact .inl (.inr k)
    ·exact .inr ⟨x,hx,k⟩
theorem Zgx (l:List ZT) (u:Int):Zdf (ZgN l u) ∧ ∀ v,v ∈ ZgN l u ↔ EA l u v:=by
 have h:=Ze3 u l [] List.Pairwise.nil
 exact ⟨h.1,fun v=>by rw [show ZgN l u=l.foldl (Za0 u) [] from rfl,h.2];simp⟩
theorem ZlA {o:List Int} (h:Zdf o) {x:Int} (hx:x ∉ o):(ZgG o x).length=o.length+1:=by
 have h1:=ZbM (n:=x) h
 have e:(ZgG o x).Perm (x :: o):=(List.perm_ext_iff_of_nodup (h1.1.imp fun h=>by omega) (YaF.2 ⟨hx,h.imp fun h=>by omega⟩)).2 fun y=>by rw [h1.2,Yh];exact ⟨Or.symm,Or.symm⟩
 simpa using e.length_eq
theorem ZaN {P:Int→Prop} : ∀ (l:List ZT) (o:List Int),Zdf o→(∀ v ∈ o,P v)→(∀ a ∈ l,P a.src→P a.dst) →
  Zdf (Zah l o)∧(∀ v ∈ Zah l o,P v)∧(∀ v ∈ o,v ∈ Zah l o)∧(∀ v ∈ Zah l o,v ∈ o ∨ ∃ a ∈ l,a.dst=v)∧(Zah l o=o∨o.length<(Zah l o).length)∧(Zah l o=o → ∀ a ∈ l,a.src ∈ o→a.dst ∈ o)
 | [],o,h,hp,_=>⟨h,hp,fun _ h=>h,fun _ h=>.inl h,.inl rfl,fun _ a ha=>by cases ha⟩
 | a :: l,o,h,hp,hl=>by
  have e:Zah (a :: l) o=Zah l (Zch o a):=rfl
  rw [e]
  by_cases hc:a.src ∈ o∧a.dst ∉ o
  ·have e2:Zch o a=ZgG o a.dst:=Yf hc
   have hi:=ZbM (n:=a.dst) h
   have hlen:=ZlA h hc.2
   rw [e2]
   obtain ⟨g1,g2,g3,g4,g5,g6⟩:=ZaN l (ZgG o a.dst) hi.1 (fun v hv=>by
    rcases (hi.2 v).1 hv with hv | rfl
    ·exact hp v hv
    ·exact hl a (by simp) (hp _ hc.1)) (fun x hx=>hl x (by simp [hx]))
   have hgt:o.length<(Zah l (ZgG o a.dst)).length:=by
    rcases g5 with g5 | g5
    ·rw [g5];omega
    ·omega
   refine ⟨g1,g2,fun v hv=>g3 v ((hi.2 v).2 (.inl hv)),fun v hv=>?_,.inr hgt,fun e=>?_⟩
   ·rcases g4 v hv with hv | ⟨x,hx,k⟩
    ·rcases (hi.2 v).1 hv with hv | rfl
     ·exact .inl hv
     ·exact .inr ⟨a,by simp,rfl⟩
    ·exact .inr ⟨x,by simp [hx],k⟩
   ·rw [e] at hgt;exact absurd hgt (Nat.lt_irrefl _)
  ·have e2:Zch o a=o:=Ye hc
   rw [e2]
   obtain ⟨g1,g2,g3,g4,g5,g6⟩:=ZaN l o h hp (fun x hx=>hl x (by simp [hx]))
   refine ⟨g1,g2,g3,fun v hv=>?_,g5,fun e x hx hs=>?_⟩
   ·rcases g4 v hv with hv | ⟨x,hx,k⟩
    ·exact .inl hv
    ·exact .inr ⟨x,by simp [hx],k⟩
   ·rcases Yh.1 hx with rfl | hx
    ·exact Decidable.byContradiction fun h=>hc ⟨hs,h⟩
    ·exact g6 e x hx hs
theorem ZcY {P:Int→Prop} {l:List ZT} (hl:∀ a ∈ l,P a.src→P a.dst):∀ (n:Nat) (o:List Int),Zdf o→(∀ v ∈ o,P v)→(∀ v ∈ o,∃ a ∈ l,a.dst=v) →
  Zdf (Zcd l n o)∧(∀ v ∈ Zcd l n o,P v)∧(∀ v ∈ o,v ∈ Zcd l n o)∧(∀ v ∈ Zcd l n o,∃ a ∈ l,a.dst=v)∧(Zah l (Zcd l n o)=Zcd l n o∨n≤(Zcd l n o).length)
 | 0,o,h,hp,hd=>⟨h,hp,fun _ h=>h,hd,.inr (YA _)⟩
 | n+1,o,h,hp,hd=>by
  obtain ⟨h1,h2,h3,h4,h5⟩:=ZcY hl n o h hp hd
  obtain ⟨g1,g2,g3,g4,g5,g6⟩:=ZaN l _ h1 h2 hl
  refine ⟨g1,g2,fun v hv=>g3 v (h3 v hv),fun v hv=>?_,?_⟩
  ·rcases g4 v hv with hv | hv
   ·exact h4 v hv
   ·exact hv
  ·show Zah l (Zah l (Zcd l n o))=Zah l (Zcd l n o)∨n+1≤(Zah l (Zcd l n o)).length
   rcases g5 with g5 | g5
   ·exact .inl (by rw [g5,g5])
   ·rcases h5 with h5 | h5
    ·exact .inl (by rw [h5,h5])
    ·exact .inr ow
theorem ZcD:∀ {o d:List Int},o.Nodup→(∀ v ∈ o,v ∈ d)→o.length≤d.length
 | [],_,_,_=>YA _
 | x :: o,d,h,hs=>by
  rw [YaF] at h
  have hx:=hs x (by simp)
  have ih:=ZcD (o:=o) (d:=d.erase x) h.2 fun v hv=>(YaJ fun e=>h.1 (by rw [← e];exact hv)).2 (hs v (by simp [hv]))
  rw [List.length_erase_of_mem hx] at ih
  have:=Ybk hx
  rw [Yx];omega
theorem Zb0 {o d:List Int} (h:Zdf o) (hs:∀ v ∈ o,v ∈ d):o.length≤d.length:=ZcD (h.imp fun h=>by omega) hs
theorem Zhg (l:List ZT) (u:Int):Zdf (Zd3 l u) ∧ ∀ v,v ∈ Zd3 l u ↔ Rch (EA l) u v:=by
 obtain ⟨hn1,hn2⟩:=Zgx l u
 have hl:∀ a ∈ l,Rch (EA l) u a.src→Rch (EA l) u a.dst:=fun a ha h=>.step h ⟨a,ha,rfl,rfl⟩
 obtain ⟨h1,h2,h3,h4,h5⟩:=ZcY (P:=Rch (EA l) u) hl (l.length+1) (ZgN l u) hn1 (fun v hv=>.one ((hn2 v).1 hv)) (fun v hv=>by obtain ⟨a,ha,_,k⟩:=(hn2 v).1 hv;exact ⟨a,ha,k⟩)
 have hfix:Zah l (Zd3 l u)=Zd3 l u:=by
  rcases h5 with h5 | h5
  ·exact h5
  ·have hle:=Zb0 (d:=l.map ZT.dst) h1 fun v hv=>by obtain ⟨a,ha,k⟩:=h4 v hv;exact YD.2 ⟨a,ha,k⟩
   rw [YZ] at hle
   omega
 have hcl:=(ZaN (P:=fun _=>True) l (Zd3 l u) h1 (fun _ _=>trivial) (fun _ _ _=>trivial)).2.2.2.2.2 hfix
 refine ⟨h1,fun v=>⟨h2 v,fun h=>?_⟩⟩
 induction h with
 | one h=>exact h3 _ ((hn2 _).2 h)
 | step _ k ih=>
  obtain ⟨a,ha,e1,e2⟩:=k
  subst e1;subst e2
  exact hcl a ha ih
def Zpx (p:PairD):ZT:=⟨p.key,p.val,1,0⟩
def Zju (q:List PairD):List ZT:=Znd Zj8 (q.map Zpx)
def EQ_ (q:List PairD) (a b:Int):Prop:=(⟨a,b⟩:PairD) ∈ q
theorem ZnX {q:List PairD} {a b:Int} : EA (Zju q) a b ↔ EQ_ q a b:=by
 unfold EA EQ_ Zju
 constructor
 ·rintro ⟨x,hx,rfl,rfl⟩
  rw [(ZgM Zh4 _).2] at hx
  obtain ⟨p,hp,rfl⟩:=YD.1 hx
  exact hp
 ·intro h
  exact ⟨Zpx ⟨a,b⟩,by rw [(ZgM Zh4 _).2];exact YD.2 ⟨_,h,rfl⟩,rfl,rfl⟩
def reachQ (q:List PairD) (u:Int):List Int:=Zd3 (Zju q) u
theorem Zj (q:List PairD) (u:Int):Zdf (reachQ q u) ∧ ∀ v,v ∈ reachQ q u ↔ Rch (EQ_ q) u v:=by
 obtain ⟨h1,h2⟩:=Zhg (Zju q) u
 exact ⟨h1,fun v=>(h2 v).trans (Rch.congr fun a b=>ZnX)⟩
theorem Zcn {q r:List PairD} {u:Int} (h:∀ v,Rch (EQ_ q) u v ↔ Rch (EQ_ r) u v):reachQ q u=reachQ r u:=ZcT (Zj q u).1 (Zj r u).1 fun v=>by rw [(Zj q u).2,(Zj r u).2,h]
theorem ZgI {q r:List PairD} (h:∀ p,p ∈ q ↔ p ∈ r) (u:Int):reachQ q u=reachQ r u:=Zcn fun v=>Rch.congr fun a b=>h _
def InN (n:Nat) (q:List PairD):Prop:=∀ p ∈ q,(0≤p.key∧p.key<n)∧0≤p.val∧p.val<n
theorem Zbx {n:Nat} {q:List PairD} (h:InN n q) (u:Int):Up n (reachQ q u):=⟨(Zj q u).1,fun v hv=>by
 obtain ⟨a,ha⟩:=((Zj q u).2 v |>.1 hv).last
 exact (h _ ha).2⟩
def nextQ (q:List PairD) (n:Nat) (u:Int):List Int:=((List.range n).map fun j:Nat=>(j:Int)).filter fun v=>decide ((⟨u,v⟩:PairD) ∈ q)
theorem Zdq (n:Nat):Up n ((List.range n).map fun j:Nat=>(j:Int)):=⟨by
 rw [List.pairwise_map]
 exact List.pairwise_lt_range.imp fun h=>by omega,fun i hi=>by
 obtain ⟨j,hj,rfl⟩:=YD.1 hi
 have:=Yae.1 hj
 omega⟩
theorem Zae {n:Nat} {v:Int} : v ∈ ((List.range n).map fun j:Nat=>(j:Int)) ↔ 0≤v∧v<n:=by
 rw [YD]
 constructor
 ·rintro ⟨j,hj,rfl⟩;have:=Yae.1 hj;omega
 ·rintro ⟨h1,h2⟩;exact ⟨v.toNat,Yae.2 ow,by omega⟩
theorem ZaB (q:List PairD) (n:Nat) (u:Int):Up n (nextQ q n u):=⟨(Zdq n).1.filter _,fun i hi=>(Zdq n).2 i (YH.1 hi).1⟩
theorem ZdR {q:List PairD} {n:Nat} {u v:Int} (h:InN n q):v ∈ nextQ q n u ↔ EQ_ q u v:=by
 unfold nextQ EQ_
 rw [YH,Zae,Yn]
 exact ⟨fun k=>k.2,fun k=>⟨(h _ k).2,k⟩⟩
theorem Zbh {q r:List PairD} {n:Nat} {u:Int} (h:∀ v,(⟨u,v⟩:PairD) ∈ q ↔ (⟨u,v⟩:PairD) ∈ r):nextQ q n u=nextQ r n u:=by
 unfold nextQ
 congr 1
 funext v
 rw [YQ];exact h v
theorem Zlu {n:Nat} : Up n []:=⟨List.Pairwise.nil,by simp⟩
theorem Zkb (l:List Int) (p:Int→Bool):l.length=(l.filter p).length+(l.filter fun x=>!p x).length:=by
 induction l with
 | nil=>rfl
 | cons a l ih=>
  cases h:p a <;> simp [h] <;> omega
theorem ZmY {n:Nat} {x z:List Int} (hx:Up n x) (hz:Up n z):(orL x n z).length=x.length+(ZR z x).length:=by
 have ho:=ZeO hx z
 have e1:(orL x n z).filter (fun i=>decide (i ∈ x))=x:=Zbm (Zcr ho _).1 hx.1 fun i=>by
  rw [YH,ZbW hx]
  constructor
  ·rintro ⟨_,h⟩;simpa using h
  ·intro h;exact ⟨.inl h,by simpa using h⟩
 have e2:(orL x n z).filter (fun i=>!decide (i ∈ x))=ZR z x:=Zbm (Zcr ho _).1 (Zcr hz _).1 fun i=>by
  unfold ZR
  rw [YH,ZbW hx,YH]
  constructor
  ·rintro ⟨h1 | h1,h2⟩
   ·simp at h2;exact absurd h1 h2
   ·exact ⟨h1.1,h2⟩
  ·rintro ⟨h1,h2⟩;have:=hz.2 i h1;exact ⟨.inr ⟨h1,this.1,this.2⟩,h2⟩
 have:=Zkb (orL x n z) (fun i=>decide (i ∈ x))
 rw [e1,e2] at this
 exact this
theorem ZkP {q:List PairD} {u v:Int} (a b:Int):EQ_ (q ++ [⟨u,v⟩]) a b ↔ EQ_ q a b∨(a=u∧b=v):=by
 unfold EQ_
 rw [Yu,Yd,PairD.mk.injEq]
theorem ZmO {q:List PairD} {u v:Int} (h:v ∈ reachQ q u) (x:Int):reachQ (q ++ [⟨u,v⟩]) x=reachQ q x:=
 Zcn fun w=>Rch.add_same ZkP (((Zj q u).2 v).1 h)
theorem InN.add {n:Nat} {q:List PairD} {u v:Int} (h:InN n q) (hu:0≤u∧u<n) (hv:0≤v∧v<n):InN n (q ++ [⟨u,v⟩]):=fun p hp=>by
 rcases Yu.1 hp with hp | hp
 ·exact h p hp
 ·rw [Yd] at hp;subst hp;exact ⟨hu,hv⟩
theorem InN.erase {n:Nat} {q:List PairD} {p:PairD} (h:InN n q):InN n (q.erase p):=fun x hx=>h x (List.mem_of_mem_erase hx)
theorem ZoC {n:Nat} {q:List PairD} {u v x:Int} (hq:InN n q) (hu:0≤u∧u<n) (hv:0≤v∧v<n) (h:x=u∨u ∈ reachQ q x):orL (reachQ q x) n (putL (reachQ q v) n v true)=reachQ (q ++ [⟨u,v⟩]) x:=by
 have h1:=Zbx hq x
 refine Zbm (ZeO h1 _).1 (Zj _ x).1 fun w=>?_
 have h2:x=u∨Rch (EQ_ q) x u:=h.imp id fun k=>((Zj q x).2 u).1 k
 rw [ZbW h1,ZaY,(Zj q x).2,(Zj q v).2,(Zj _ x).2,Rch.add ZkP]
 constructor
 ·rintro (k | ⟨k,_⟩)
  ·exact .inl k
  ·rcases k with k | k
   ·exact .inr ⟨h2,.inr k.2⟩
   ·exact .inr ⟨h2,.inl k.1⟩
 ·rintro (k | ⟨_,k⟩)
  ·exact .inl k
  ·refine .inr ?_
   rcases k with rfl | k
   ·exact ⟨.inr ⟨rfl,rfl,hv⟩,hv⟩
   ·have hb:=(Zbx hq v).2 w (((Zj q v).2 w).2 k)
    by_cases e:w=v
    ·subst e;exact ⟨.inr ⟨rfl,rfl,hv⟩,hv⟩
    ·exact ⟨.inl ⟨e,k⟩,hb⟩
theorem Zjh {q:List PairD} {u v x:Int} (h:¬ (x=u∨u ∈ reachQ q x)):reachQ (q ++ [⟨u,v⟩]) x=reachQ q x:=by
 rw [(Zj q x).2] at h
 refine Zcn fun w=>?_
 rw [Rch.add ZkP]
 exact ⟨fun k=>by rcases k with k | k;exact k;exact absurd k.1 h,.inl⟩
theorem Zk4 {q:List PairD} {p:PairD} (h:p ∈ q.erase p) (x:PairD):x ∈ q.erase p ↔ x ∈ q:=by
 by_cases e:x=p
 ·subst e;exact ⟨fun _=>List.mem_of_mem_erase h,fun _=>h⟩
 ·exact YaJ e
theorem Zoh {q:List PairD} {u v:Int} (h:(⟨u,v⟩:PairD) ∈ q) (a b:Int):EQ_ q a b ↔ EQ_ (q.erase ⟨u,v⟩) a b∨(a=u∧b=v):=by
 unfold EQ_
 by_cases e:(⟨a,b⟩:PairD) = ⟨u,v⟩
 ·rw [PairD.mk.injEq] at e
  obtain ⟨rfl,rfl⟩:=e
  exact ⟨fun _=>.inr ⟨rfl,rfl⟩,fun _=>h⟩
 ·rw [YaJ e]
  rw [PairD.mk.injEq] at e
  exact ⟨.inl,fun k=>by rcases k with k | k;exact k;exact absurd k e⟩
theorem ZhI {q:List PairD} {u v x:Int} (h:(⟨u,v⟩:PairD) ∈ q) (hx:¬ (x=u∨u ∈ reachQ q x)):reachQ (q.erase ⟨u,v⟩) x=reachQ q x:=by
 rw [(Zj q x).2] at hx
 exact Zcn fun w=>Rch.drop_same (Zoh h) hx
structure Zlk (n:Nat) (q:List PairD) (x:Int) (row wait:List Int):Prop where
 up:Up n row
 rch:∀ v ∈ row,Rch (EQ_ q) x v
 sub:∀ v ∈ wait,v ∈ row
 one:∀ w,EQ_ q x w→w ∈ row
 all:∀ v ∈ row,v ∈ wait ∨ ∀ w,EQ_ q v w→w ∈ row
theorem Zjc {n:Nat} {q:List PairD} {x:Int} (h:InN n q):Zlk n q x (nextQ q n x) (nextQ q n x):=⟨ZaB q n x,fun v hv=>.one ((ZdR h).1 hv),fun _ h=>h,fun w hw=>(ZdR h).2 hw,fun v hv=>.inl hv⟩
theorem Zne {n:Nat} {q:List PairD} {x:Int} {row:List Int} (h:Zlk n q x row []):row=reachQ q x:=by
 refine Zbm h.up.1 (Zj q x).1 fun w=>?_
 rw [(Zj q x).2]
 refine ⟨h.rch w,fun k=>?_⟩
 induction k with
 | one k=>exact h.one _ k
 | step _ k ih=>
  rcases h.all _ ih with j | j
  ·cases j
  ·exact j _ k
theorem Zk8 {n:Nat} {q:List PairD} {x y:Int} {row wait:List Int} (hq:InN n q) (h:Zlk n q x row (wait ++ [y])):Zlk n q x (orL row n (ZR (nextQ q n y) row)) (wait++ZR (nextQ q n y) row):=by
 have hy:y ∈ row:=h.sub y (by simp)
 have hf:∀ w,w ∈ ZR (nextQ q n y) row ↔ EQ_ q y w∧w ∉ row:=fun w=>by unfold ZR;rw [YH,ZdR hq];simp
 have hm:∀ w,w ∈ orL row n (ZR (nextQ q n y) row) ↔ w ∈ row∨EQ_ q y w:=fun w=>by
  rw [ZbW h.up,hf]
  constructor
  ·rintro (k | k)
   ·exact .inl k
   ·exact .inr k.1.1
  ·rintro (k | k)
   ·exact .inl k
   ·by_cases e:w ∈ row
    ·exact .inl e
    ·exact .inr ⟨⟨k,e⟩,(hq _ k).2⟩
 refine ⟨ZeO h.up _,fun v hv=>?_,fun v hv=>?_,fun w hw=>(hm w).2 (.inl (h.one w hw)),fun v hv=>?_⟩
 ·rcases (hm v).1 hv with k | k
  ·exact h.rch v k
  ·exact .step (h.rch y hy) k
 ·rcases Yu.1 hv with k | k
  ·exact (hm v).2 (.inl (h.sub v (by simp [k])))
  ·exact (hm v).2 (.inr ((hf v).1 k).1)
 ·by_cases e:v ∈ row
  ·by_cases e2:v=y
   ·subst e2;exact .inr fun w hw=>(hm w).2 (.inr hw)
   ·rcases h.all v e with k | k
    ·rcases Yu.1 k with k | k
     ·exact .inl (by simp [k])
     ·exact absurd (by simpa using k) e2
    ·exact .inr fun w hw=>(hm w).2 (.inl (k w hw))
  ·rcases (hm v).1 hv with k | k
   ·exact absurd k e
   ·exact .inl (Yu.2 (.inr ((hf v).2 ⟨k,e⟩)))
theorem Zh7 {n:Nat} {x:List Int} (h:Up n x):x.length≤n:=by
 have:=Zb0 (d:=(List.range n).map fun j:Nat=>(j:Int)) h.1 fun v hv=>Zae.2 (h.2 v hv)
 simpa using this
theorem Zm0 {n:Nat} {row z:List Int} (h:Up n row) (hz:Up n z):(orL row n (ZR z row)).length=row.length+(ZR z row).length:=by
 rw [ZmY h (show Up n (ZR z row) from ⟨hz.1.filter _,fun i hi=>hz.2 i (YH.1 hi).1⟩)]
 congr 1
 unfold ZR
 rw [List.filter_filter]
 congr 1
 refine Ybq fun i _=>?_
 simp
def rowsQ (q:List PairD) (n:Nat):List (List Int):=(List.range n).map fun i:Nat=>reachQ q (i:Int)
def Zg2 (a b:List (List Int)):List Int:=((List.range a.length).filter fun i=>!decide (Nn a i=Nn b i)).map fun i:Nat=>(i:Int)
theorem rowsQ_len (q:List PairD) (n:Nat):(rowsQ q n).length=n:=by unfold rowsQ;rw [YZ,List.length_range]
theorem ZcB {q:List PairD} {n i:Nat} (h:i<n):Nn (rowsQ q n) i=reachQ q (i:Int):=by
 unfold rowsQ
 rw [nth_eq (by simpa using h),Ya3,Ya5]
theorem ZhD {q r:List PairD} (n:Nat) (h:∀ x,reachQ q x=reachQ r x):rowsQ q n=rowsQ r n:=by unfold rowsQ;exact Ybh fun i _=>h _
theorem Zhd (a:List (List Int)):Zg2 a a = []:=by unfold Zg2;rw [List.filter_eq_nil_iff.2 (by simp)];rfl
def kv32 {κ:Type} (enc:κ→List Int) (k:κ):Value:=.agg ((enc k).map fun n=>Value.int .i32 n).toArray
theorem ZhC (l:List Int) (n:Nat):Instr.sameBits (n+1) (.agg (l.map fun n=>Value.int .i32 n).toArray) (.agg (l.map fun n=>Value.int .i32 n).toArray)=true:=by
 unfold Instr.sameBits
 simp
 intro a b h
 have key:∀ (l:List Int),(a,b) ∈ (l.map fun n=>Value.int .i32 n).zip (l.map fun n=>Value.int .i32 n) → ∃ x,a = .int .i32 x∧b = .int .i32 x:=by
  intro l
  induction l with
  | nil=>intro h;simp at h
  | cons x l ih=>
   intro h
   simp at h
   rcases h with ⟨rfl,rfl⟩ | h
   ·exact ⟨x,rfl,rfl⟩
   ·exact ih (by simpa using h)
 obtain ⟨x,rfl,rfl⟩:=key l (by simpa using h)
 cases n <;> simp [Instr.sameBits]
theorem ZbS {P:Program} {w:World} {d:Nat} {e:TypeId} (he:P.underlying e=some (.int .i32)) {l m:List Int} : ∀ (is:List Nat),(∀ i ∈ is,i<l.length∧i<m.length)→(Op.eqItems (d+1) e 1 (l.map fun n=>Value.int .i32 n).toArray (m.map fun n=>Value.int .i32 n).toArray is).run P w = .ok (is.all fun i=>decide (l[i]? = m[i]?)) w
 | [],_=>by simp [Op.eqItems]
 | i :: is,h=>by
  have hag:P.aggB e=some false:=by unfold Program.aggB;rw [he]
  obtain ⟨h1,h2⟩:=h i (by simp)
  have p1:(part e (l.map fun n=>Value.int .i32 n).toArray (i*1)).run P w = .ok (.int .i32 l[i]) w:=by simp [part,ZaL hag,h1]
  have p2:(part e (m.map fun n=>Value.int .i32 n).toArray (i*1)).run P w = .ok (.int .i32 m[i]) w:=by simp [part,ZaL hag,h2]
  have p3:(Op.equalIn (d+1) e (.int .i32 l[i]) (.int .i32 m[i])).run P w = .ok (l[i] == m[i]) w:=run_equalIn_int w d e .i32 _ _ _ he
  have ih:=ZbS (P:=P) (w:=w) (d:=d) he is (fun j hj=>h j (Yw _ hj))
  simp only [Op.eqItems,YE,p1,p2,p3,Yt]
  rw [List.all_cons,YN h1,YN h2]
  by_cases hab:l[i] = m[i]
  ·simp [hab,ih]
  ·simp [hab]
theorem Zhz {l m:List Int} {n:Nat} (hl:l.length=n) (hm:m.length=n):((List.range n).all fun i=>decide (l[i]? = m[i]?))=decide (l=m):=by
 rw [Ybn,Yay,Yn]
 constructor
 ·intro h
  apply List.ext_getElem?
  intro i
  by_cases hi:i<n
  ·simpa using h i (Yae.2 hi)
  ·rw [YaP ow,YaP ow]
 ·rintro rfl i _
  simp
theorem Zag {P:Program} {κ:Type} [DecidableEq κ] {kt et:TypeId} {enc:κ→List Int} {n:Nat} (hl:∀ k,(enc k).length=n) (hi:∀ a b,enc a=enc b→a=b) (hu:P.underlying kt=some (.array n et)) (he:P.underlying et=some (.int .i32)) (hc:P.cellsOf et=1):Znx P kt (fun k=>∀ x ∈ enc k,inR .i32 x) (kv32 enc) where
 check:=fun b k w _=>by
  obtain ⟨ti,hti⟩:∃ i,P.info? et=some i:=info_of_underlying he
  have hag:P.aggB et=some false:=by unfold Program.aggB;rw [he]
  unfold kv32
  rw [show (10000:Nat)=9998+1+1 from rfl,Instr.checkKey]
  simp only [YE,Yi hu,Yt]
  simp only [Std.Legacy.Range.forIn_eq_forIn_range',Std.Legacy.Range.size,Ybl,Nat.add_one_sub_one,Nat.div_one]
  have each:∀ i ∈ List.range' 0 n,i<(enc k).length:=by intro i h;rw [hl];simp [List.mem_range'] at h;omega
  generalize List.range' 0 n=is at each
  induction is with
  | nil=>simp
  | cons j is ih=>
   have h1:=each j (by simp)
   have p1:(part et ((enc k).map fun n=>Value.int .i32 n).toArray (j*1)).run P w = .ok (.int .i32 (enc k)[j]) w:=by simp [part,ZaL hag,h1]
   have p2:(Instr.checkKey b (9998+1) et (.int .i32 (enc k)[j])).run P w = .ok () w:=Go.MapKept.run_checkKey he (by simp [Go.MapKept.IsKey]) b 9998
   simp only [List.forIn_cons,YE,run_sizeOf w hti,hc,Yt,p1,p2,YK]
   exact ih (fun y hy=>each y (by simp [hy]))
 find:=fun es k w hok hks=>by
  obtain ⟨ti,hti⟩:∃ i,P.info? et=some i:=info_of_underlying he
  rw [run_findKey_eq (P:=P) (w:=w) (k:=kt) (by rw [hu]) (kv32 enc k) (es.map (rEnc (kv32 enc)))]
  have key:∀ (es:List (GE κ Value)) (j:Nat),(Instr.findAsking kt (kv32 enc k) (es.map (rEnc (kv32 enc))) j).run P w = .ok ((gIdx k es).map fun i=>(i+j,(gGet k es).getD undef)) w:=by
   intro es
   induction es with
   | nil=>intro j;simp [Instr.findAsking,gIdx]
   | cons e es ih=>
    intro j
    have hq:(Op.equal kt (kv32 enc k) (kv32 enc e.key)).run P w = .ok (decide (enc k=enc e.key)) w:=by
     unfold Op.equal Op.maxDepth kv32
     rw [show (10000:Nat)=9998+1+1 from rfl,run_equalIn_array w (9998+1) _ _ hu hti,hc,ZbS he _ (fun i h=>by rw [hl,hl];simpa using h),Zhz (hl _) (hl _)]
    rw [Y8]
    unfold Instr.findAsking
    have ih':=ih (j+1)
    by_cases h:k=e.key
    ·have hek:enc k=enc e.key:=by rw [h]
     simp only [rEnc,YE,hq,hek,decide_true,Yt,Yo,YK]
     simp [gIdx,gGet,h]
    ·have hek:¬ enc k=enc e.key:=fun h'=>h (hi _ _ h')
     simp only [rEnc,YE,hq,YW hek,Yt,Bool.false_eq_true,Yj]
     rw [show (es.map fun e=>rEnc (kv32 enc) e)=es.map (rEnc (kv32 enc)) from rfl] at *
     rw [ih']
     simp only [gIdx,gGet,Ye h]
     cases hm:gIdx k es with
     | none=>rfl
     | some i=>simp;omega
  have:=key es 0
  simpa using this
 same:=fun k=>ZhC (enc k) 9999
theorem Ze4 {w:World} {y:Ys} : ∀ {l:List Int} {vs:List Value},PVs (l.map fun n=>PV.int .i32 n) vs w y→vs=l.map (fun n=>Value.int .i32 n) ∧ ∀ x ∈ l,inR .i32 x
 | [],[],_=>⟨rfl,by simp⟩
 | [],_ :: _,h=>h.elim
 | _ :: _,[],h=>h.elim
 | n :: l,v :: vs,h=>by
  obtain ⟨h1,h2⟩:=Ze4 (l:=l) h.2
  have h3:v = .int .i32 n∧inR .i32 n:=h.1.2
  exact ⟨by rw [h3.1,h1];rfl,fun x hx=>by rcases Yh.1 hx with rfl | hx;exact h3.2;exact h2 x hx⟩
theorem ZC.agg32 {κ:Type} {x:Operand} {ps:List (Nat×SF)} {enc:κ→List Int} {k:κ} {l:List PV} (h:Opd x ps (.pv (.agg l))) (e:l=(enc k).map fun n=>PV.int .i32 n):ZC (fun k=>∀ x ∈ enc k,inR .i32 x) (kv32 enc) x ps k:=fun a w yy hp=>by
 subst e
 obtain ⟨vs,e1,hv⟩:=h a w yy hp
 obtain ⟨h1,h2⟩:=Ze4 hv
 exact ⟨by rw [e1,h1];rfl,h2⟩
def Zdm (p:PairD):List Int:=[p.key,p.val]
def roomN (n:Int):Nat:=(if n<0 then 0 else if n > 4096 then 4096 else n).toNat
theorem ZaA (n:Int):roomN n≤4096:=by unfold roomN;split; (· omega);split <;> omega
theorem ZiL (n:Int):(if 4096<(if n<0 then 0 else n) then 4096 else if n<0 then 0 else n)=((roomN n:Nat):Int):=by unfold roomN;split <;> split <;> (try split) <;> omega
theorem Zj9 (l:List ZT) (u:Int) (k j:Nat):Zdf (Zah (l.take j) (Zcd l k (ZgN l u)))∧(Zah (l.take j) (Zcd l k (ZgN l u))).length≤l.length:=by
 obtain ⟨hn1,hn2⟩:=Zgx l u
 obtain ⟨h1,_,_,h4,_⟩:=ZcY (P:=fun _=>True) (l:=l) (fun _ _ _=>trivial) k (ZgN l u) hn1 (fun _ _=>trivial) (fun v hv=>by obtain ⟨a,ha,_,k⟩:=(hn2 v).1 hv;exact ⟨a,ha,k⟩)
 obtain ⟨g1,_,_,g4,_,_⟩:=ZaN (P:=fun _=>True) (l.take j) _ h1 (fun _ _=>trivial) (fun _ _ _=>trivial)
 refine ⟨g1,?_⟩
 have:=Zb0 (d:=l.map ZT.dst) g1 fun v hv=>by
  rcases g4 v hv with hv | ⟨x,hx,hk⟩
  ·obtain ⟨a,ha,k⟩:=h4 v hv;exact YD.2 ⟨a,ha,k⟩
  ·exact YD.2 ⟨x,List.mem_of_mem_take hx,hk⟩
 rwa [YZ] at this
theorem Zjm (l:List ZT) (u:Int):(Zd3 l u).length≤l.length:=(Zj9 l u (l.length+1) 0).2
theorem ZgW:∀ (l acc:List ZT),(l.foldl (ZjO Zj8) acc).length≤acc.length+l.length
 | [],acc=>by simp
 | e :: l,acc=>by
  have h1:=ZgW l (ZjO Zj8 acc e)
  have h2:(ZbU Zj8 e acc false).length≤acc.length+1:=by simpa using Zgu Zj8 e acc false
  have h3:(ZjO Zj8 acc e).length=(ZbU Zj8 e acc false).length:=rfl
  rw [Ybd,Yx]
  omega
theorem Zle (q:List PairD):(Zju q).length≤q.length:=by have:=ZgW (q.map Zpx) [];rw [YS,YG,YZ] at this;exact this
theorem ZjV (q:List PairD) (u:Int):(reachQ q u).length≤q.length:=YaN (Zjm _ _) (Zle q)
def Zmj (l:List Int):List PV:=[.sl Zk l]
structure Deed4 where
 kind:Int
 u:Int
 v:Int
 deriving DecidableEq,Inhabited
abbrev There (n:Nat) (u:Int):Prop:=0≤u∧u<n
def stepQ (n:Nat) (q:List PairD) (d:Deed4):List PairD×Int:=
 if There n d.u∧There n d.v then (if d.kind=0 then (q ++ [⟨d.u,d.v⟩],0) else if q.count ⟨d.u,d.v⟩ = 0 then (q,3) else (q.erase ⟨d.u,d.v⟩,0)) else (q,1)
theorem Zcc {n:Nat} {q:List PairD} {d:Deed4} (h:¬ (There n d.u∧There n d.v)):stepQ n q d=(q,1):=Ye h
theorem ZhP (a b:List (List Int)) (i:Nat):(((List.range i).filter fun i=>!decide (Nn a i=Nn b i)).map fun i:Nat=>(i:Int)).length≤i:=by
 rw [YZ]
 exact YaN (YaQ _ _) (by simp)
theorem Ent.sure {c:Prop} {s:SF} (h:c):Ent s (.when c s):=fun _ _ _ _ k=>⟨fun _=>k,fun n=>absurd h n⟩
theorem Ent.adr0 {b:Nat} : Ent (.adr (.val (.pointer (some ⟨b,0,none⟩))) 0) (.pv (.is (.pointer (some ⟨b,0,none⟩)))):=fun _ _ _ _ h=>by
 have e:_=Value.pointer (some ⟨b,0,none⟩):=h
 exact ⟨e,by rw [e];rfl⟩
def rV (v:Value):List PV:=[.is v]
theorem Zfm {α:Type} [Inhabited α] {l:List α} {k:Nat} (h:k<l.length):l[k]? = some (Nn l k):=by rw [nth_eq h];exact YN h
def famL (ps:List Value) (f:Nat→List Int):List (Value×List Int):=(List.range ps.length).map fun k=>(Nn ps k,f k)
def Z5 (n:Nat) (p:Value×List Int):HP:=Z0 p.1 n p.2
theorem Zaj (ps:List Value) (f:Nat→List Int):(famL ps f).length=ps.length:=by unfold famL;simp
theorem Zbe {ps:List Value} {f:Nat→List Int} {k:Nat} (h:k<ps.length):(famL ps f)[k]? = some (Nn ps k,f k):=by unfold famL;simp [h]
theorem Za9 {ps:List Value} {f g:Nat→List Int} (h:∀ k,k<ps.length→f k=g k):famL ps f=famL ps g:=by
 unfold famL
 exact Ybh fun k hk=>by rw [h k (Yae.1 hk)]
theorem ZdC {ps:List Value} {f g:Nat→List Int} {k:Nat} {x:List Int} (hx:x=g k) (h:∀ j,j<ps.length→j≠k→f j=g j):(famL ps f).set k (Nn ps k,x)=famL ps g:=by
 apply Y4 (by simp [Zaj])
 intro j h1 h2
 rw [Zaj] at h2
 rw [YaK]
 split
 ·rename_i e;subst e;simp [famL,hx]
 ·rename_i e;simp [famL,h j h2 fun e'=>e e'.symm]
theorem ZaP {α:Type} [Inhabited α] {a b:List α} {k:Nat} (h:k<a.length):Nn (a++b) k=Nn a k:=by rw [nth_eq (by simp;omega),nth_eq h,Yaq h]
theorem ZaF {α:Type} [Inhabited α] {a:List α} {x:α} : Nn (a ++ [x]) a.length=x:=by rw [nth_eq (by simp)];simp
theorem Zk3 (ps:List Value) (v:Value) (f:Nat→List Int):famL (ps ++ [v]) f=famL ps f ++ [(v,f ps.length)]:=by
 unfold famL
 rw [Yc,Yp,YaR,Y7,List.map_singleton,ZaF]
 congr 1
 exact Ybh fun k hk=>by rw [ZaP (Yae.1 hk)]
section
variable {B:Zap} {E:En} {a:Act} {w:World} {F:Fp}
theorem Sat.shrink {r r':RS} (h:Sat B E a w F) (n:Nat) (hl:Go.Gm.look E.r n=some r) (hd:ZdV r'.deps=true) (hr:∀ τ w f y,r.holds τ w f y → ∃ f':Ys,(∀ b,f' b→f b)∧r'.holds τ w f' y):∃ F',Sat B ⟨E.s,(n,r') :: E.r⟩ a w F':=by
 obtain ⟨f',hf,hh⟩:=hr _ _ _ _ (h.r n r hl)
 have hle:∀ b,U (fun m=>if m=n then f' else F m) b→U F b:=fun b ⟨m,hm⟩=>by
  by_cases e:m=n
  ·simp only [e,Yo] at hm;exact ⟨n,hf b hm⟩
  ·simp only [e,Yj] at hm;exact ⟨m,hm⟩
 have hev:=Ev.less w hle
 have hsub:∀ m b,(if m=n then f' else F m) b→F m b:=fun m b hm=>by
  by_cases e:m=n
  ·simp only [e,Yo] at hm;rw [e];exact hf b hm
  ·simp only [e,Yj] at hm;exact hm
 refine ⟨fun m=>if m=n then f' else F m,⟨fun i k b hi hk=>h.wf.dis i k b (hsub i b hi) (hsub k b hk),fun i b hi=>h.wf.bd i b (hsub i b hi)⟩,h.ev.trans hev,h.n,h.df,fun j s hj=>SF.mono hev (fun _ _=>rfl) (h.s j s hj),fun i r2 hi=>?_,fun i b hi=>?_⟩
 ·rw [Zd] at hi
  split at hi
  ·rename_i e
   simp only [YX] at hi;subst hi;subst e
   simp only [Yo]
   exact RS.mono hev (fun _ _=>rfl) (fun _ _=>rfl) hh
  ·rename_i e
   simp only [show i≠n from fun k=>e k.symm,Yj]
   exact RS.mono hev (fun _ _=>rfl) (fun _ _=>rfl) (h.r i r2 hi)
 ·rw [Zd]
  split
  ·exact ⟨_,rfl⟩
  ·exact h.em i b (hsub i b hi)
theorem Zdg {α:Type} {g g':α→HP} {w:World} {y:Ys} (hg:∀ x f,(g x).p w f y → ∃ f':Ys,(∀ b,f' b→f b)∧(g' x).p w f' y):∀ {L:List α} {f:Ys},stars w y (L.map fun x=>RS.hp (g x)) f → ∃ f':Ys,(∀ b,f' b→f b)∧stars w y (L.map fun x=>RS.hp (g' x)) f'
 | [],f,h=>⟨f,fun _ h=>h,h⟩
 | x :: L,f,⟨f1,f2,h1,h2,h3,h4,h5⟩=>by
  obtain ⟨g1,k1,k2⟩:=hg x f1 h4
  obtain ⟨g2,m1,m2⟩:=Zdg hg h5
  exact ⟨fun b=>g1 b∨g2 b,fun b hb=>(h1 b).2 (hb.imp (k1 b) (m1 b)),g1,g2,fun _=>Ybz,fun b hb hc=>h2 b (k1 b hb) (m1 b hc),h3,k2,m2⟩
end
theorem setV_c (v:Value) (n:Nat) (x:List Int) (i:Int) (on:Bool):FnG prog 25 1 [.is v,.int .i64 i,.bool on] [Z0 v n x] (.bool (!decide (x=putL x n i on))) (fun _=>[Z0 v n (putL x n i on)]):=
 FnG.ptrAny (h0:=fun v=>Z0 v n x) (args:=fun v=>[.is v,.int .i64 i,.bool on]) (pr:=fun v=>[Z0 v n x]) (q:=fun _=>.bool (!decide (x=putL x n i on))) (qr:=fun v _=>[Z0 v n (putL x n i on)]) ZbK (fun _=>rfl) (fun b=>Zpb b n x i on) v
theorem Zo0 (v:Value) (n:Nat) (x:List Int) (m:Nat) (z:List Int):FnG prog 28 1 [.is v,setR m z] [Z0 v n x] (.bool (!decide (x=orL x n z))) (fun _=>[Z0 v n (orL x n z)]):=
 FnG.ptrAny (h0:=fun v=>Z0 v n x) (args:=fun v=>[.is v,setR m z]) (pr:=fun v=>[Z0 v n x]) (q:=fun _=>.bool (!decide (x=orL x n z))) (qr:=fun v _=>[Z0 v n (orL x n z)]) ZbK (fun _=>rfl) (fun b=>ZpG b n x m z) v
theorem ZmB (v:Value) (n:Nat) (x:List Int) (m:Nat) (z:List Int):FnG prog 59 1 [.is v,setR m z] [Z0 v n x] (.bool (!decide (x=ZR x z))) (fun _=>[Z0 v n (ZR x z)]):=
 FnG.ptrAny (h0:=fun v=>Z0 v n x) (args:=fun v=>[.is v,setR m z]) (pr:=fun v=>[Z0 v n x]) (q:=fun _=>.bool (!decide (x=ZR x z))) (qr:=fun v _=>[Z0 v n (ZR x z)]) ZbK (fun _=>rfl) (fun b=>Zos b n x m z) v
theorem ZnW (v:Value) (n:Nat) (x:List Int):FnG prog 58 1 [.is v] [Z0 v n x] (.sl Zk x) (fun _=>[Z0 v n x]):=
 FnG.ptrAny (h0:=fun v=>Z0 v n x) (args:=fun v=>[.is v]) (pr:=fun v=>[Z0 v n x]) (q:=fun _=>.sl Zk x) (qr:=fun v _=>[Z0 v n x]) ZbK (fun _=>rfl) (fun b=>Zoo b n x) v
def Zhw (q:List PairD) (es:List (GE PairD Int)):Prop:=GNd es ∧ ∀ p,gGet p es=if q.count p=0 then none else some ((q.count p:Nat):Int)
theorem Zhw.get {q:List PairD} {es:List (GE PairD Int)} (h:Zhw q es) (p:PairD):(gGet p es).getD 0=((q.count p:Nat):Int):=by
 rw [h.2 p];split
 ·rename_i e;rw [e];rfl
 ·rfl
theorem Zhw.inc {q:List PairD} {es:List (GE PairD Int)} {ck:Nat} {p:PairD} (h:Zhw q es):Zhw (q ++ [p]) (gSet p (((q.count p:Nat):Int)+1) (gEns 0 p (es,ck)).1):=by
 refine ⟨(h.1.ens (s:=(es,ck))).set,fun p'=>?_⟩
 rw [ZbO (es,ck)]
 rw [List.count_append,List.count_singleton]
 by_cases e:p' = p
 ·subst e;simp
 ·have e':¬ p=p':=fun h=>e h.symm
  simp [e,e',h.2 p']
theorem Zhw.dec {q:List PairD} {es:List (GE PairD Int)} {ck:Nat} {p:PairD} (h:Zhw q es) (h2:1<q.count p):Zhw (q.erase p) (gSet p (((q.count p:Nat):Int) - 1) (gEns 0 p (es,ck)).1):=by
 refine ⟨(h.1.ens (s:=(es,ck))).set,fun p'=>?_⟩
 rw [ZbO (es,ck)]
 by_cases e:p' = p
 ·subst e
  rw [Yf rfl,Ybp,Ye ow]
  congr 1;omega
 ·rw [Ye e,List.count_erase_of_ne e,h.2 p']
theorem Zhw.del {q:List PairD} {es:List (GE PairD Int)} {ck:Nat} {p:PairD} {c:Int} (h:Zhw q es) (h2:q.count p=1):Zhw (q.erase p) (gDel p (gSet p c (gEns 0 p (es,ck)).1)):=by
 have hn:GNd (gSet p c (gEns 0 p (es,ck)).1):=(h.1.ens (s:=(es,ck))).set
 refine ⟨hn.del,fun p'=>?_⟩
 rw [Ziy hn]
 by_cases e:p' = p
 ·subst e
  rw [Yf rfl,Ybp,Yf ow]
 ·rw [Ye e,ZbO (es,ck),Ye e,List.count_erase_of_ne e,h.2 p']
theorem ZaE (a b:PairD) (h:Zdm a=Zdm b):a=b:=by cases a;cases b;simpa [Zdm] using h
theorem Zbb {x:Int} (h : -2147483648≤x∧x≤2147483647):inR .i32 x:=by simpa [inR,IntKind.min,IntKind.max,IntKind.signed,IntKind.bits] using h
theorem Zdz {x:Int} (h : -2147483648≤x∧x≤2147483647):IntKind.wrap .i32 x=x:=ZdG (Zbb h)
structure Zo5 where
 cv:Value
 nv:Value
 rv:Value
 ns:List Value
 rs:List Value
 es:List (GE PairD Int)
 ck:Nat
structure Zmb (n:Nat) (q:List PairD) (last:List Int) (s:Zo5):Prop where
 ll:last.length≤n
 hi:n≤4096
 inn:InN n q
 len:q.length≤1000000
 nl:s.ns.length=n
 rl:s.rs.length=n
 cnt:Zhw q s.es
abbrev ZeH (es:List (GE PairD Int)) (ck:Nat):Value→HP:=ZeB (fun c:Int=>PV.int .i32 c) (fun k:PairD=>∀ x ∈ Zdm k,inR .i32 x) (kv32 Zdm) es ck
def Zcu (n:Nat) (q:List PairD) (last:List Int) (s:Zo5) (v:Value):List RS:=[.pt (.val v) 50 [.pv (.is s.cv),.pv (.is s.nv),.pv (.is s.rv),.pv (.sl Zk last)],.ob (.val s.cv) (ZeH s.es s.ck),.ob (.val s.nv) (Zo 51 1 rV s.ns),.ob (.val s.rv) (Zo 51 1 rV s.rs),
 Zaw (Z5 n) (famL s.ns fun k=>nextQ q n (k:Int)),Zaw (Z5 n) (famL s.rs fun k=>reachQ q (k:Int))]
def clH (v:Value) (n:Nat) (q:List PairD) (last:List Int):HP:=.ex fun s:Zo5=>.and (Zmb n q last s) (.star (Zcu n q last s v))
theorem Zeb {v:Value} {n:Nat} {q:List PairD} {last:List Int} {w:World} {f y:Ys} (h:(clH v n q last).p w f y):∃ b,v = .pointer (some ⟨b,0,none⟩):=by
 obtain ⟨s,_,h⟩:=h
 exact HP.star_pt h
theorem Zkm {v:Value} {n:Nat} {q:List PairD} {last:List Int} {w:World} {f y:Ys} (h:(clH v n q last).p w f y):n≤4096∧InN n q∧q.length≤1000000:=by
 obtain ⟨s,h,_⟩:=h
 exact ⟨h.hi,h.inn,h.len⟩
def reachB (n:Nat) (q:List PairD) (u v:Int):Bool:=decide (There n u∧v ∈ reachQ q u)
def Zpg (n:Nat) (q:List PairD) (u:Int):List Int:=if There n u then reachQ q u else []
theorem Sat.pushFam {α:Type} {B:Zap} {E:En} {a:Act} {w:World} {F:Fp} (g:α→HP) {L:List α} {x:α} (h:Sat B E a w F) (n i:Nat) (hl:Go.Gm.look E.r n=some (Zaw g L)) (hi:Go.Gm.look E.r i=some (RS.hp (g x))) (hne:Nat.beq n i=false) :
  ∃ F',Sat B ⟨E.s,(n,Zaw g (L ++ [x])) :: (i,RS.hp (HP.star [])) :: E.r⟩ a w F':=by
 obtain ⟨F',h1⟩:=h.push n i hl hi hne rfl
 have hp:(RS.hp (g x) :: L.map fun x=>RS.hp (g x)).Perm ((L ++ [x]).map fun x=>RS.hp (g x)):=by
  rw [Y7];exact (List.perm_append_singleton _ _).symm
 have h2:=h1.turn n (r:=RS.hp (HP.star (RS.hp (g x) :: L.map fun x=>RS.hp (g x)))) (by rw [Zd,Yf rfl]) (r':=Zaw g (L ++ [x])) (fun _ _ _ _ k=>ZcW hp k)
 refine ⟨F',h2.congr (fun _=>rfl) (fun k=>?_)⟩
 simp only [Zd]
 split
 ·rfl
 ·split
  ·rfl
  ·rfl
theorem ZgK (n:Nat) (u:Int):nextQ [] n u = []:=by unfold nextQ;simp
theorem ZeT (u:Int):reachQ [] u = []:=by
 have h:=(Zj [] u).2
 rw [List.eq_nil_iff_forall_not_mem]
 intro v hv
 obtain ⟨a,ha⟩:=((h v).1 hv).last
 cases ha
theorem ZbG {ps:List Value} {v:Value} {f:Nat→List Int} {x:List Int} (h:x=f ps.length):famL ps f ++ [(v,x)] = famL (ps ++ [v]) f:=by rw [Zk3,h]
theorem Zmb.new {n:Nat} {s:Zo5} (hn:n≤4096) (h1:s.ns.length=n) (h2:s.rs.length=n) (h3:s.es = []):Zmb n [] [] s:=⟨YA _,hn,fun p hp=>(by cases hp),YA _,h1,h2,by rw [h3];exact ⟨List.nodup_nil,fun p=>rfl⟩⟩
def ZfJ (q q':List PairD) (i k:Nat):List Int:=if k<i then reachQ q' (k:Int) else reachQ q (k:Int)
theorem ZhV (q q':List PairD):ZfJ q q' 0=fun k:Nat=>reachQ q (k:Int):=by funext k;unfold ZfJ;rw [Ye (YaH k)]
theorem Zni (q q':List PairD) (i:Nat):ZfJ q q' i i=reachQ q (i:Int):=by unfold ZfJ;rw [Ye (Nat.lt_irrefl i)]
theorem mix_next (q q':List PairD) {i:Nat} : reachQ q' (i:Int)=ZfJ q q' (i+1) i:=by unfold ZfJ;rw [Yf (Nat.lt_succ_self i)]
theorem mix_other (q q':List PairD) {i j:Nat} (h:j≠i):ZfJ q q' i j=ZfJ q q' (i+1) j:=by
 unfold ZfJ
 by_cases e:j<i
 ·rw [Yf e,Yf ow]
 ·rw [Ye e,Ye ow]
theorem ZhL {n:Nat} {q:List PairD} {u v:Int} (hv:0≤v∧v<n):putL (nextQ q n u) n v true=nextQ (q ++ [⟨u,v⟩]) n u:=by
 refine Zbm (ZbC (ZaB q n u) v true).1 (ZaB _ n u).1 fun w=>?_
 rw [ZaY]
 unfold nextQ
 rw [YH,YH,Zae,Yn,Yn,Yu,Yd,PairD.mk.injEq]
 constructor
 ·rintro (⟨h1,h2,h3⟩ | ⟨h1,_⟩)
  ·exact ⟨h2,.inl h3⟩
  ·subst h1;exact ⟨hv,.inr ⟨rfl,rfl⟩⟩
 ·rintro ⟨h1,h2 | ⟨_,h2⟩⟩
  ·by_cases e:w=v
   ·exact .inr ⟨e,rfl,hv⟩
   ·exact .inl ⟨e,h1,h2⟩
  ·exact .inr ⟨h2,rfl,hv⟩
theorem ZhM {n:Nat} {q:List PairD} {u v x:Int} (h:x≠u):nextQ q n x=nextQ (q ++ [⟨u,v⟩]) n x:=Zbh fun w=>by
 rw [Yu,Yd,PairD.mk.injEq]
 exact ⟨.inl,fun k=>k.resolve_right fun e=>h e.1⟩
theorem Zgb {n:Nat} {q:List PairD} {u v:Int} (hv:0≤v∧v<n) (h1:q.count ⟨u,v⟩ = 1):putL (nextQ q n u) n v false=nextQ (q.erase ⟨u,v⟩) n u:=by
 have hno:(⟨u,v⟩:PairD) ∉ q.erase ⟨u,v⟩:=by
  rw [← List.count_eq_zero,Ybp];omega
 refine Zbm (ZbC (ZaB q n u) v false).1 (ZaB _ n u).1 fun w=>?_
 rw [ZaY]
 unfold nextQ
 rw [YH,YH,Zae,Yn,Yn]
 by_cases e:w=v
 ·subst e
  simp [hno]
 ·have e':(⟨u,w⟩:PairD)≠⟨u,v⟩:=fun h=>e (PairD.mk.inj h).2
  rw [YaJ e']
  simp [e]
theorem Zgo {n:Nat} {q:List PairD} {u v x:Int} (h:x≠u):nextQ q n x=nextQ (q.erase ⟨u,v⟩) n x:=Zbh fun w=>by
 rw [YaJ fun e=>h (PairD.mk.inj e).1]
def Zfj (n:Nat) (q q':List PairD):List Int:=Zg2 (rowsQ q n) (rowsQ q' n)
theorem lastQ_len (n:Nat) (q q':List PairD):(Zfj n q q').length≤n:=by
 unfold Zfj Zg2
 rw [rowsQ_len]
 exact ZhP _ _ _
theorem ZeS {n:Nat} {q q':List PairD} (h:∀ x,reachQ q x=reachQ q' x):Zfj n q q' = []:=by
 unfold Zfj
 rw [ZhD n h];exact Zhd _
def ZfK (q q':List PairD) (i:Nat):List Int:=(((List.range i).filter fun k:Nat=>!decide (reachQ q (k:Int)=reachQ q' (k:Int))).map fun k:Nat=>(k:Int))
theorem ZbP (q q':List PairD) (i:Nat):ZfK q q' (i+1)=ZfK q q' i++(if reachQ q (i:Int)=reachQ q' (i:Int) then [] else [(i:Int)]):=by
 unfold ZfK
 rw [YaR,YaI,Y7]
 congr 1
 by_cases h:reachQ q (i:Int)=reachQ q' (i:Int) <;> simp [h]
theorem ZgH (q q':List PairD) (i:Nat):(ZfK q q' i).length≤i:=by
 unfold ZfK
 rw [YZ]
 exact YaN (YaQ _ _) (by simp)
theorem Zf2 (n:Nat) (q q':List PairD):ZfK q q' n=Zfj n q q':=by
 unfold ZfK Zfj Zg2
 rw [rowsQ_len]
 congr 1
 refine Ybq fun k hk=>?_
 rw [ZcB (Yae.1 hk),ZcB (Yae.1 hk)]
def lastD (n:Nat) (q:List PairD) (last:List Int) (d:Deed4):List Int:=if (stepQ n q d).2=0 then Zfj n q (stepQ n q d).1 else last
theorem Cert.condS {P:Program} {o:Oper} {ops:Array Oper} {ps:List (Nat×SF)} {pr pr' pr2:List (Nat×RS)} {q:SF} {j sj:Nat} {want β:Bool} (hg:o.guard=some (j,want))
  (hj:(ops[j]?).bind (·.dst)=some sj) (hc:Zcp pr2=true) (e1:β=want→pr' = pr2) (e2:¬ β=want → ∀ x ∈ pr2,x ∈ pr) (h:β=want→OpC P o ⟨ps,pr,q,pr'⟩):Go.Gm.Cert P ops o ⟨(sj,.pv (.bool β)) :: ps,pr,.when (β=want) q,pr2⟩:=fun a w F K Q hw hs hr ht=>by
 have hb:Act.tau a sj = .bool β:=hs (sj,.pv (.bool β)) (by simp)
 by_cases hβ:β=want
 ·have:Region.wanted o (yielded ops a.tmps)=true:=by simp [Region.wanted,hg,ZN hj hb,hβ]
  rw [Yf this]
  have e:=e1 hβ;subst e
  exact h hβ a w F K Q hw (fun x hx=>hs x (by simp [hx])) hr (fun v w' F' h1 h2 h3 h4=>ht v w' F' h1 h2 ⟨fun _=>h3,fun h=>absurd hβ h⟩ h4)
 ·have:Region.wanted o (yielded ops a.tmps)=false:=by
   simp [Region.wanted,hg,ZN hj hb,hβ]
  rw [this]
  have e:=e2 hβ
  exact ht _ w F hw (Stp.any _ w F) ⟨fun h=>absurd h hβ,fun _=>rfl⟩ (fun x hx=>RS.closed (Zbt hc hx) (hr x (e x hx)))
theorem Zcg {w:World} {y y':Ys} : ∀ {l:List Int} {xs:List Value},PVs (l.flatMap Zk) xs w y→PVs (l.flatMap Zk) xs w y'
 | [],[],_=>trivial
 | _ :: l,_ :: xs,h=>⟨h.1,Zcg (l:=l) h.2⟩
 | [],_ :: _,h=>h.elim
 | _ :: _,[],h=>h.elim
theorem Zkp {T:Nat} {l:List Int} {v:Value} {w:World} {f y y':Ys} (h:(Zo T 1 Zk l v).p w f y):(Zo T 1 Zk l v).p w f y':=by
 obtain ⟨xs,h1,h2,h3⟩:=h
 exact ⟨xs,h1,Zcg h2,h3⟩
theorem ZhN (u v:Int) (hu:0≤u∧u<4096) (hv:0≤v∧v<4096):FnP prog 24 [.int .i64 u,.int .i64 v] (.agg [.int .i32 u,.int .i32 v]):=by
 refine FnP.mk func24 V ntmps24 V fun B a w F J hfr G=>Ya ?_
 refine Ze G (qf (oH [.int .i32 0,.int .i32 0] 101) trivial qz qZ) J [4,1,0] [101,0] (fun _=>rfl) (fun _=>rfl) fun τ a w F G=>?_
 try dsimp only [RS.sub,SF.sub,CF.sub,csub,Anc.sub,List.map,zCF] at G
 generalize τ 4=v4 at G
 refine Za (Ya (rZ G (qR rr (qf (o_conv YbH kr .t) r1 qz (qR rr (qf (o_conv YbH kr .t) r1 qz (qf (ZmN (sz:=1) (r:=[(0,.tmp 6),(1,.tmp 8)]) (zs:=[.int .i32 0,.int .i32 0]) (pl:=[(0,1),(1,1)]) YbJ kr kr V (.one V .t one_int kr (.one V .t one_int kr .nil)) (by rfl)) r2 qz (qs 2 101 r2 r1 qZ)))))) J [4] [101,0] fun G=>Yl ?_))
 rw [Zdz ow,Zdz ow] at G
 refine Zdj hfr G V (.cl 101 true 2 V V .nil) (.one (.aggU V V))
theorem Zn0 (b n:Nat) (q:List PairD) (last:List Int):FnG prog 22 1 [.is (.pointer (some ⟨b,0,none⟩))] [clH (.pointer (some ⟨b,0,none⟩)) n q last] (.int .i64 n) (fun _=>[clH (.pointer (some ⟨b,0,none⟩)) n q last]):=by
 refine FnG.mk func22 V ntmps22 V kr fun B F0 a w F J hG G=>?_
 obtain ⟨sx,G⟩:=G.open_ex 1 rfl
 obtain ⟨hk,G⟩:=G.open_and 1 rfl
 dsimp only [Zcu] at G
 obtain ⟨F,G⟩:=G.peel 1 2 V rfl
 obtain ⟨F,G⟩:=G.peel 1 3 V rfl
 obtain ⟨F,G⟩:=G.peel 1 4 V rfl
 obtain ⟨F,G⟩:=G.peel 1 5 V rfl
 obtain ⟨F,G⟩:=G.peel 1 6 V rfl
 obtain ⟨F,G⟩:=G.peel 1 7 V rfl
 have hhi:=hk.hi
 have hnl:=hk.nl
 have hrl:=hk.rl
 have hinn:=hk.inn
 obtain ⟨F,G⟩:=G.nM [0] [7,6,5,4,3,2,0]
 refine Ya (rZ G (qI qZ) J [2,0] [7,6,5,4,3,2,0] fun G=>(Ya (Ya ?_)))
 refine rZ G (qR rr (qf (Zai _ underlying24 V .t) r1 qz qZ)) J [4,2,0] [7,6,5,4,3,2,0] fun G=>?_
 refine Zc G V (fun hc0=>?_) (fun hc0=>?_)
 ·simp at hc0
 refine Yg (Za (Ya (rZ G (qR rr (qf (o_nilCheck 2 .is (by rfl)) r1 r1 (qf (oF 2 2 .adr) r1 r1 (qa 2 r1 r1 (qf (Zx 5 YbB .is) r1 r1 (qO rr qZ)))))) J [2] [7,6,5,4,3,2,0] fun G=>Yl ?_)))
 obtain ⟨F,G⟩:=G.nM [2] [7,6,5,4,3,2,0]
 have G:=G.fresh 1 rfl
 obtain ⟨F,G⟩:=G.push 1 7 V V V kr
 obtain ⟨F,G⟩:=G.push 1 6 V V V kr
 obtain ⟨F,G⟩:=G.push 1 5 V V V kr
 obtain ⟨F,G⟩:=G.push 1 4 V V V kr
 obtain ⟨F,G⟩:=G.push 1 3 V V V kr
 obtain ⟨F,G⟩:=G.push 1 2 V V V kr
 have G:=G.turn 1 V (r':=RS.hp (clH (.pointer (some ⟨b,0,none⟩)) n q last)) (fun _ _ _ _ h=>⟨sx,hk,h⟩)
 obtain ⟨F,G⟩:=G.nM [2] [1,0]
 refine Zy hG G V (.tmp V .nil) (.one (.int (by rw [hrl]))) rfl
theorem Ze2 (b n:Nat) (q:List PairD) (last:List Int) (u:Int):FnG prog 23 1 [.is (.pointer (some ⟨b,0,none⟩)),.int .i64 u] [clH (.pointer (some ⟨b,0,none⟩)) n q last] (.bool (decide (There n u))) (fun _=>[clH (.pointer (some ⟨b,0,none⟩)) n q last]):=by
 refine FnG.mk func23 V ntmps23 V kr fun B F0 a w F J hG G=>Ya ?_
 refine rZ G qB J [4,1,0] [1,0] fun G=>Ya ?_
 refine rZ G (qR rr (qf (Zb6 .t qi) r1 qz (qR rr (qm V V V V (qm V V V V (Chain.cons (Cert.condR V V (by rfl) (fun h=>o_callG1 1 (Zn0 b n q last) func22 V kr (Args.one (.w h)))) r2 r1 (qk V (fun h=>Zbg (.w h) (.w h)) r3 qz (qf (ZF .t .t) r2 qz (qO rr qZ))))))))) J [4] [1,0] fun G=>Yl ?_
 refine Zy hG G V (.tmp V .nil) (.one (.bool (by unfold There;by_cases h:0≤u <;> simp [h]))) rfl
def Zc8 (n:Nat) (q:List PairD) (u v:Int):Int:=if There n u∧There n v then ((q.count ⟨u,v⟩:Nat):Int) else 0
theorem Zkt (b n:Nat) (q:List PairD) (last:List Int) (u v:Int):FnG prog 12 1 [.is (.pointer (some ⟨b,0,none⟩)),.int .i64 u,.int .i64 v] [clH (.pointer (some ⟨b,0,none⟩)) n q last] (.int .i64 (Zc8 n q u v)) (fun _=>[clH (.pointer (some ⟨b,0,none⟩)) n q last]):=by
 refine FnG.mk func12 V ntmps12 V kr fun B F0 a w F J hG G=>?_
 obtain ⟨hhi,_⟩:=Zkm (show (clH (.pointer (some ⟨b,0,none⟩)) n q last).p _ _ _ from G.r 1 _ rfl)
 refine Ya (rZ G (qI qZ) J [6,2,1,0] [1,0] fun G=>(Ya (Ya ?_)))
 refine Zb G (qR rr (qR rr (qf (o_callG1 1 (Ze2 b n q last u) func23 V kr (Args.two .t .t)) r2 r1 (qf (o_not .t) r1 qz (qR rr (qm V V V V (qm V V V V (Chain.cons (Cert.condR V V (by rfl) (fun h=>o_callG1 1 (Ze2 b n q last v) func23 V kr (Args.two (.w h) (.w h)))) r3 r1 (qk V (fun h=>o_not (.w h)) r2 qz (qf (Zaa .t .t) r2 qz qZ)))))))))) J [16,6,2,1,0] [1,0] V V fun a w F G=>?_
 try dsimp only [rV,ZeH] at G
 refine Za (Zc G V (fun hc0=>?_) (fun hc0=>?_))
 ·have hg:(0:Int)=Zc8 n q u v:=by unfold Zc8;rw [Ye];rintro ⟨h1,h2⟩;simp [h1,h2] at hc0 <;> omega
  refine Ya (rZ G (qI qZ) J [6,2,1,0] [1,0] fun G=>(Yl (Zw ?_)))
  refine Zy hG G V (.tmp V .nil) (.one (.int hg)) rfl
 have hth:There n u∧There n v:=by simp at hc0;omega
 obtain ⟨sx,G⟩:=G.open_ex 1 rfl
 obtain ⟨hk,G⟩:=G.open_and 1 rfl
 dsimp only [Zcu] at G
 obtain ⟨F,G⟩:=G.peel 1 2 V rfl
 obtain ⟨F,G⟩:=G.peel 1 3 V rfl
 obtain ⟨F,G⟩:=G.peel 1 4 V rfl
 obtain ⟨F,G⟩:=G.peel 1 5 V rfl
 obtain ⟨F,G⟩:=G.peel 1 6 V rfl
 obtain ⟨F,G⟩:=G.peel 1 7 V rfl
 have hhi:=hk.hi
 have hnl:=hk.nl
 have hrl:=hk.rl
 have hinn:=hk.inn
 obtain ⟨F,G⟩:=G.nM [16,6,2,1,0] [7,6,5,4,3,2,0]
 refine Yg (Za (Ya (Zp G (qR rr (qf (o_nilCheck 2 .is (by rfl)) r1 r1 (qf (oF 0 2 .adr) r1 r1 (qa 2 r1 r1 (qR rr (qR rr (qf (oP (ZhN u v ow ow) func24 (Args.two .t .t)) r2 qz (qf (Za5 (ek:=(fun c:Int=>PV.int .i32 c)) (z0:=(0:Int)) 3 YbL (Zag (enc:=Zdm) (n:=2) (fun _=>rfl) ZaE YbJ YbH V) kr (fun _ _=>⟨rfl,Zbb ow⟩) .is (ZC.agg32 (enc:=Zdm) (k:=(⟨u,v⟩:PairD)) .t V)) r2 r1 (qf (o_conv YbG kr .t) r1 qz (qO rr qZ)))))))))) J [6] [7,6,5,4,3,2,0] V V fun a w F G=>?_)))
 try dsimp only [List.map,xD,xE,xT,xU,ldSF,rV,ZeH] at G
 rw [hk.cnt.get] at G
 have hcl:q.count (⟨u,v⟩:PairD)≤q.length:=Ya9
 have hql:=hk.len
 rw [Zr ow] at G
 have hg:((q.count (⟨u,v⟩:PairD):Nat):Int)=Zc8 n q u v:=by unfold Zc8;rw [Yf hth]
 refine Za (Yl ?_)
 obtain ⟨F,G⟩:=G.nM [6] [7,6,5,4,3,2,0]
 have G:=G.fresh 1 rfl
 obtain ⟨F,G⟩:=G.push 1 7 V V V kr
 obtain ⟨F,G⟩:=G.push 1 6 V V V kr
 obtain ⟨F,G⟩:=G.push 1 5 V V V kr
 obtain ⟨F,G⟩:=G.push 1 4 V V V kr
 obtain ⟨F,G⟩:=G.push 1 3 V V V kr
 obtain ⟨F,G⟩:=G.push 1 2 V V V kr
 have G:=G.turn 1 V (r':=RS.hp (clH (.pointer (some ⟨b,0,none⟩)) n q last)) (fun _ _ _ _ h=>⟨sx,hk,h⟩)
 obtain ⟨F,G⟩:=G.nM [6] [1,0]
 refine Zy hG G V (.tmp V .nil) (.one (.int hg)) rfl
theorem Znp:inR .i64 0:=by show IntKind.min .i64≤0∧0≤IntKind.max .i64;decide
theorem ZlN (room:Int):FnG prog 5 1 [.int .i64 room] [gH Zez ZfU] (PV.ptr) (fun v=>[clH v (roomN room) [] []]):=by
 refine FnG.mk func5 V ntmps5 V kr fun B F0 a w F J hG G=>Ya ?_
 refine rZ G (qC qZ) J [2,0] [1,0] fun G=>Ya ?_
 refine Zb G (qR rr (qf (Zhx .t qi) r1 qz (qf (o_min .t qi) r1 qz (qO rr qZ)))) J [2,0] [1,0] V V fun a w F G=>?_
 rw [ZiL] at G
 refine Za (Ya (Ze G (qf (ZeQ (ek:=(fun c:Int=>PV.int .i32 c)) (ok:=(fun k:PairD=>∀ x ∈ Zdm k,inR .i32 x)) (kv:=(kv32 Zdm)) 101) trivial qz (qf (oB [(0,.tmp 7)] [.map none,.slice none 0 0,.slice none 0 0,.slice none 0 0] [(0,1),(1,1),(2,1),(3,1)] (.same V kr .nil)) r1 qz (qf (oX 102 .t) r1 qz (qO rr qZ)))) J [3,2,0] [102,101,1,0] (fun _=>rfl) (fun _=>rfl) fun τ a w F G=>?_))
 try dsimp only [RS.sub,SF.sub,CF.sub,csub,Anc.sub,List.map,Zh,xL,xM,Nat.reduceAdd,xD,xE,xT,xU,xC,xN,zCF,rV,ZeH] at G
 generalize τ 9=v9,τ 7=v7 at G
 refine Za (Ya (Ya (Zb G (qR rr (qJ qZ)) J [11,10,3,2,0] [102,101,1,0] V V fun a w F G=>?_)))
 replace G:=G.fresh 50 rfl
 replace G:=G.turn 50 V (Z1 (T:=51) (sz:=1) (R:=rV))
 replace G:=G.fresh 51 rfl
 replace G:=G.turn 51 V (Z1 (T:=51) (sz:=1) (R:=rV))
 replace G:=G.fresh 60 rfl
 replace G:=G.turn 60 V (r':=Zaw (Z5 (roomN room)) (famL [] (fun k=>nextQ [] (roomN room) (k:Int)))) (fun _ _ _ _ h=>h)
 obtain ⟨F,G⟩:=G.nM [11,10,3,2,0] [102,101,60,51,50,1,0]
 replace G:=G.fresh 61 rfl
 replace G:=G.turn 61 V (r':=Zaw (Z5 (roomN room)) (famL [] (fun k=>reachQ [] (k:Int)))) (fun _ _ _ _ h=>h)
 obtain ⟨F,G⟩:=G.nM [11,10,3,2,0] [102,101,61,60,51,50,1,0]
 refine Za (Yk (Zl (σ:=Nat×Value×List Value×Value×List Value) [0,2,3,10] [0,1,101] (fun s=>[(11,.pv (.int .i64 (s.1:Int)))]) (fun s=>[(102,.pt (.val v9) 50 [.pv (.is v7),.pv (.is s.2.1),.pv (.is s.2.2.2.1),.pv (.is (.slice none 0 0))]),(50,.ob (.val s.2.1) (Zo 51 1 rV s.2.2.1)),(51,.ob (.val s.2.2.2.1) (Zo 51 1 rV s.2.2.2.2)),(60,Zaw (Z5 (roomN room)) (famL s.2.2.1 (fun k=>nextQ [] (roomN room) (k:Int)))),(61,Zaw (Z5 (roomN room)) (famL s.2.2.2.2 (fun k=>reachQ [] (k:Int))))]) (fun s=>s.1≤(roomN room)∧s.2.2.1.length=s.1∧s.2.2.2.2.length=s.1) (fun s=>(roomN room) - s.1) ((0),(.slice none 0 0),([]),(.slice none 0 0),([])) G ⟨rfl,rfl,rfl,rfl,rfl,tv⟩ ⟨rfl,rfl,rfl,rfl,rfl,rfl,rfl,rfl,tv⟩ ⟨YA _,rfl,rfl⟩ ?_))
 clear G;intro s a w F hC G
 obtain ⟨i,u1,p1,u2,p2⟩:=s
 try dsimp only at hC
 obtain ⟨F,G⟩:=G.nM [11,10,3,2,0] [102,101,61,60,51,50,1,0]
 try dsimp only at G
 obtain ⟨hi,hp1,hp2⟩:=hC
 refine Ya (rZ G (qL r2) J [12,11,10,3,2,0] [102,101,61,60,51,50,1,0] fun G=>Ya ?_)
 refine Zc G V (fun hc0=>?_) (fun hc0=>?_)
 ·have hil:i<(roomN room):=by simp at hc0;omega
  have hrl:=ZaA room
  refine Yg (Za (Ya (Yk (Ya ?_))))
  replace G:=G.dupG 1 70 V rfl
  refine Zac G (qR rr (qR rr (qf (o_nilCheck 102 .is (by rfl)) r1 r1 (qf (oF 1 102 .adr) r1 r1 (qa 102 r1 r1 (qR rr (qf (Zak 70 (Ze1 (((roomN room):Nat):Int)) func21 V kr (Args.one .t) PV.ptr_one) r1 r1 (qf (Zfs (i:=19) (j:=19) (p:=fun z=>.arr 1 [.is z]) (by rfl) (fun z=>o_buildSliceE (sz:=1) (zs:=[.pointer none]) (r:=[(0,.tmp 19)]) (l:=[_]) YbB kr kr kr kr V V (.one V .t one_is kr .nil) V)) r1 qz (qf (Zi9 (i:=20) (j:=19) (by rfl) (fun z=>ZB (sz:=1) (bs:=8) 50 (.mk' YbB kr kr) (by intro x;rfl) .is (.arr (l':=[z]) .t) (by simp only [Yc,Yx,YS];omega) (by decide))) ⟨rfl,rfl,tv⟩ ⟨rfl,tv⟩ (qf (o_nilCheck 102 .is (by rfl)) r1 r1 (qf (oF 1 102 .adr) r1 r1 (qf (o_storeS 102 .adr kr kr) r2 r1 qZ)))))))))))) J [11,10,3,2,0] [102,101,70,61,60,51,50,1,0] (fun _=>rfl) (fun _=>rfl) fun τ a w F G=>?_
  try dsimp only [RS.sub,SF.sub,CF.sub,csub,Anc.sub,List.map,Zh,xL,xM,Nat.reduceAdd,xD,xE,xT,xU,xC,xN,zCF,ldSF,rV,ZeH] at G
  generalize τ 19=v19,τ 21=v21 at G
  rw [ZbL ow] at G
  replace G:=G.turn 70 V (r':=RS.hp (Z5 (roomN room) (v19,[]))) (fun _ _ _ _ h=>h)
  obtain ⟨F,G⟩:=Sat.pushFam (Z5 (roomN room)) (L:=famL p1 (fun k=>nextQ [] (roomN room) (k:Int))) (x:=(v19,[])) G 60 70 V V rfl
  rw [ZbG (by exact (ZgK _ _).symm)] at G
  obtain ⟨F,G⟩:=G.nM [11,10,3,2,0] [102,101,61,60,51,50,1,0]
  refine Za ?_
  replace G:=G.dupG 1 71 V rfl
  refine Zac G (qR rr (qR rr (qf (o_nilCheck 102 .is (by rfl)) r1 r1 (qf (oF 2 102 .adr) r1 r1 (qa 102 r1 r1 (qR rr (qf (Zak 71 (Ze1 (((roomN room):Nat):Int)) func21 V kr (Args.one .t) PV.ptr_one) r1 r1 (qf (Zfs (i:=30) (j:=30) (p:=fun z=>.arr 1 [.is z]) (by rfl) (fun z=>o_buildSliceE (sz:=1) (zs:=[.pointer none]) (r:=[(0,.tmp 30)]) (l:=[_]) YbB kr kr kr kr V V (.one V .t one_is kr .nil) V)) r1 qz (qf (Zi9 (i:=31) (j:=30) (by rfl) (fun z=>ZB (sz:=1) (bs:=8) 51 (.mk' YbB kr kr) (by intro x;rfl) .is (.arr (l':=[z]) .t) (by simp only [Yc,Yx,YS];omega) (by decide))) ⟨rfl,rfl,tv⟩ ⟨rfl,tv⟩ (qf (o_nilCheck 102 .is (by rfl)) r1 r1 (qf (oF 2 102 .adr) r1 r1 (qf (o_storeS 102 .adr kr kr) r2 r1 qZ)))))))))))) J [11,10,3,2,0] [102,101,71,61,60,51,50,1,0] (fun _=>rfl) (fun _=>rfl) fun τ a w F G=>?_
  try dsimp only [RS.sub,SF.sub,CF.sub,csub,Anc.sub,List.map,Zh,xL,xM,Nat.reduceAdd,xD,xE,xT,xU,xC,xN,zCF,ldSF,rV,ZeH] at G
  generalize τ 30=v30,τ 32=v32 at G
  rw [ZbL ow] at G
  replace G:=G.turn 71 V (r':=RS.hp (Z5 (roomN room) (v30,[]))) (fun _ _ _ _ h=>h)
  obtain ⟨F,G⟩:=Sat.pushFam (Z5 (roomN room)) (L:=famL p2 (fun k=>reachQ [] (k:Int))) (x:=(v30,[])) G 61 71 V V rfl
  rw [ZbG (by exact (ZeT _).symm)] at G
  obtain ⟨F,G⟩:=G.nM [11,10,3,2,0] [102,101,61,60,51,50,1,0]
  refine Zi (Za (rZ G (qp r1 (qR rr qZ)) J [11,10,3,2,0] [102,101,61,60,51,50,1,0] fun G=>?_))
  replace G:=G.ent (i:=11) (s':=.pv (.int .i64 ((i+1:Nat):Int))) V (.int (Zf ow))
  obtain ⟨F,G⟩:=G.nM [10,3,2,0,11] [101,1,0,61,60,51,50,102]
  exact ⟨((i+1),(v21),((p1 ++ [v19])),(v32),((p2 ++ [v30]))),F,⟨by omega,by rw [Yc,Yp,hp1],by rw [Yc,Yp,hp2]⟩,G,(by show _ - (i+1)<_ - i;omega)⟩
 have hil:i=(roomN room):=by simp at hc0;omega
 refine YI (Zm (Zm (Zu (Za (Ya (rZ G (qR rr (qO rr qZ)) J [2] [102,101,61,60,51,50,1,0] fun G=>Yl ?_))))))
 obtain ⟨b,rfl⟩:=G.shape 102 rfl
 replace G:=G.fresh 52 rfl
 replace G:=G.turn 52 V (Z1 (T:=3) (sz:=1) (R:=Zk))
 obtain ⟨F,G⟩:=G.giveCell 52 102 3 V V V V rfl
 try dsimp only [List.set] at G
 obtain ⟨F,G⟩:=G.nM [2] [61,60,51,50,101,102,0]
 have G:=G.fresh 1 rfl
 obtain ⟨F,G⟩:=G.push 1 61 V V V kr
 obtain ⟨F,G⟩:=G.push 1 60 V V V kr
 obtain ⟨F,G⟩:=G.push 1 51 V V V kr
 obtain ⟨F,G⟩:=G.push 1 50 V V V kr
 obtain ⟨F,G⟩:=G.push 1 101 V V V kr
 obtain ⟨F,G⟩:=G.push 1 102 V V V kr
 have G:=G.turn 1 V (r':=RS.hp (clH (.pointer (some ⟨b,0,none⟩)) (roomN room) [] [])) (fun _ _ _ _ h=>⟨(⟨v7,u1,u2,p1,p2,[],0⟩:Zo5),Zmb.new (ZaA room) (by show p1.length=_;omega) (by show p2.length=_;omega) rfl,h⟩)
 refine ZU (h':=fun v=>clH v (roomN room) [] []) hG G V (.tmp V .nil) (.one .ptr) rfl
end Go.Proofs.YtlaaiihdhockcaaGreatDoor
