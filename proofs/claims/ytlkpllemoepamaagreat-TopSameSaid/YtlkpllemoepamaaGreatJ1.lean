/- Texts put together. No condition beyond those that each theorem says. -/
import Derived.Test.YtlkpllemoepamaaGreatJ0
import Derived.Test.YtlkpllemoepamaaGreatLibL
namespace Go.Proofs.YtlkpllemoepamaaGreat
open Go Go.Gm Tryz
set_option linter.unusedVariables false
set_option linter.unusedSimpArgs false
set_option maxHeartbeats 4000000
set_option maxRecDepth 8000
def ZcT (x y:Int):Int:=if x<y then -1 else if y<x then 1 else 0
def ZeN (e:Zg):List Int:=[e.src,e.kind,e.key,e.dst]
def Zge:List Int→List Int→Int
 | x :: xs,y :: ys=>if x=y then Zge xs ys else ZcT x y
 | _,_=>0
def cmpE (e f:Zg):Int:=Zge (ZeN e) (ZeN f)
theorem ZcG {x y:Int} : ZcT x y=0 ↔ x=y:=by unfold ZcT;split <;> (try split) <;> omega
theorem Zm1:∀ (k:Nat) (xs ys:List Int),k<xs.length→k<ys.length→(∀ j,j<k→Nn xs j=Nn ys j)→Nn xs k≠Nn ys k→Zge xs ys=ZcT (Nn xs k) (Nn ys k)
 | _,[],_,h,_,_,_=>by simp at h
 | _,_ :: _,[],_,h,_,_=>by simp at h
 | 0,x :: xs,y :: ys,_,_,_,hn=>by
  have hn':x≠y:=hn
  unfold Zge
  rw [Yc hn']
  rfl
 | k+1,x :: xs,y :: ys,h1,h2,hj,hn=>by
  have h0:x=y:=hj 0 ow
  unfold Zge
  rw [Yf h0]
  exact Zm1 k xs ys (by simpa using h1) (by simpa using h2) (fun j h=>hj (j+1) ow) hn
theorem ZkV:∀ (xs ys:List Int),xs.length=ys.length→(∀ j,j<xs.length→Nn xs j=Nn ys j)→Zge xs ys=0
 | [],[],_,_=>rfl
 | [],_ :: _,h,_=>by simp at h
 | _ :: _,[],h,_=>by simp at h
 | x :: xs,y :: ys,h,hj=>by
  have h0:x=y:=hj 0 (by simp)
  unfold Zge
  rw [Yf h0]
  exact ZkV xs ys (by simpa using h) (fun j h=>hj (j+1) (by simpa using h))
theorem Zom (n:Int):FnP prog 151 [.int .i64 n] (.bool false):=by
 refine FnP.mk func151 rfl ntmps151 rfl fun B a w F V hfr G=>Ya ?_
 refine rZ G qB V [2,0] [0] fun G=>Ya ?_
 refine rZ G (qR rr (qR rr (qf (o_neq .t .t) r2 qz (qO rr qZ)))) V [2] [0] fun G=>Yh ?_
 refine Zo hfr G rfl rfl rfl (.bool (by simp))
theorem Zuy (m n:Int):FnP prog 110 [.int .i64 m,.int .i64 n] (.int .i64 (ZcT m n)):=by
 refine FnP.mk func110 rfl ntmps110 rfl fun B a w F V hfr G=>Ya ?_
 refine rZ G (qI qZ) V [4,1,0] [0] fun G=>Ya ?_
 refine rZ G (qR rr (qf (oP (Zom _) func151 (Args.one .t)) r1 qz (qO rr qZ))) V [5,4,1,0] [0] fun G=>Ya ?_
 refine rZ G (qR rr (qf (oP (Zom _) func151 (Args.one .t)) r1 qz (qO rr qZ))) V [6,5,4,1,0] [0] fun G=>(Ya (Ya ?_))
 refine rZ G (qR rr qZ) V [11,6,4,1,0] [0] fun G=>?_
 refine Zc G rfl (fun hc0=>?_) (fun hc0=>?_)
 ·cases hc0
 refine Ye (Za (Ya (Ya (rZ G (qR rr qZ) V [13,4,1,0] [0] fun G=>?_))))
 refine Zc G rfl (fun hc1=>?_) (fun hc1=>?_)
 ·cases hc1
 refine Ye (Za (Ya (Ya (rZ G (qR rr (qR rr (qL r2))) V [16,4,1,0] [0] fun G=>?_))))
 refine Zc G rfl (fun hc2=>?_) (fun hc2=>?_)
 ·have hg:ZcT m n = -1:=Yf (Yt hc2)
  refine Ya (rZ G (qI qZ) V [4,1,0] [0] fun G=>(Yh (Zk ?_)))
  refine Zo hfr G rfl rfl rfl (.int (by rw [hg]))
 have h1:¬ m<n:=YG hc2
 refine Ye (Za (Ya (Ya (rZ G (qR rr (qR rr (qf (ZaU .t .t) r2 qz qZ))) V [19,4] [0] fun G=>?_))))
 refine Zc G rfl (fun hc3=>?_) (fun hc3=>?_)
 ·have hg:ZcT m n=1:=by unfold ZcT;rw [Yc h1,Yf (Yt hc3)]
  refine Ya (rZ G (qI qZ) V [4] [0] fun G=>(Yh (Zk ?_)))
  refine Zo hfr G rfl rfl rfl (.int (by rw [hg]))
 have hg:ZcT m n=0:=by unfold ZcT;rw [Yc h1,Yc (YG hc3)]
 refine Ye (Za (Ya (rZ G (qI qZ) V [4] [0] fun G=>Yh ?_)))
 refine Zo hfr G rfl rfl rfl (.int (by rw [hg]))
theorem Zpz (d e:Zg):FnP prog 174 [.agg (Zp d),.agg (Zp e)] (.int .i64 (cmpE d e)):=by
 refine FnP.mk func174 rfl ntmps174 rfl fun B a w F V hfr G=>Ya ?_
 refine Zb G (qx 101 r1 (qx 102 r1 (qI qZ))) V [4,3,2] [102,101,0] (fun _=>rfl) (fun _=>rfl) fun τ a w F G=>?_
 try dsimp only [RS.sub,SF.sub,CF.sub,csub,Anc.sub,List.map,zCF] at G
 generalize τ 2=v2 at G
 generalize τ 3=v3 at G
 refine Za (Ya (Zb G (qg 0 101 r1 r1 (qa 101 r1 r1 (qg 2 101 r1 r1 (qa 101 r1 r1 (qg 3 101 r1 r1 (qa 101 r1 r1 (qg 1 101 r1 r1 (qa 101 r1 r1 (qf (Zbl (sz:=1) (r:=[(0,.tmp 10),(1,.tmp 12),(2,.tmp 14),(3,.tmp 16)]) (zs:=[.int .i64 0,.int .i64 0,.int .i64 0,.int .i64 0]) (pl:=[(0,1),(1,1),(2,1),(3,1)]) underlying289 kr kr rfl (.one rfl .t one_int kr (.one rfl .t one_int kr (.one rfl .t one_int kr (.one rfl .t one_int kr .nil)))) (by rfl)) r4 qz (qf (oH [.int .i64 0,.int .i64 0,.int .i64 0,.int .i64 0] 103) trivial qz (qS 4 103 r2 r1 qZ))))))))))) V [5,4,3] [103,102,0] (fun _=>rfl) (fun _=>rfl) fun τ a w F G=>?_))
 try dsimp only [RS.sub,SF.sub,CF.sub,csub,Anc.sub,List.map,Ze,xL,xM,Nat.reduceAdd,xD,xE,xT,xU,xC,xN,zCF,ldSF] at G
 generalize τ 5=v5 at G
 refine Za (Ya (Zb G (qg 0 102 r1 r1 (qa 102 r1 r1 (qg 2 102 r1 r1 (qa 102 r1 r1 (qg 3 102 r1 r1 (qa 102 r1 r1 (qg 1 102 r1 r1 (qa 102 r1 r1 (qf (Zbl (sz:=1) (r:=[(0,.tmp 19),(1,.tmp 21),(2,.tmp 23),(3,.tmp 25)]) (zs:=[.int .i64 0,.int .i64 0,.int .i64 0,.int .i64 0]) (pl:=[(0,1),(1,1),(2,1),(3,1)]) underlying289 kr kr rfl (.one rfl .t one_int kr (.one rfl .t one_int kr (.one rfl .t one_int kr (.one rfl .t one_int kr .nil)))) (by rfl)) r4 qz (qf (oH [.int .i64 0,.int .i64 0,.int .i64 0,.int .i64 0] 104) trivial qz (qS 4 104 r2 r1 qZ))))))))))) V [6,5,4] [104,103,0] (fun _=>rfl) (fun _=>rfl) fun τ a w F G=>?_))
 try dsimp only [RS.sub,SF.sub,CF.sub,csub,Anc.sub,List.map,Ze,xL,xM,Nat.reduceAdd,xD,xE,xT,xU,xC,xN,zCF,ldSF] at G
 generalize τ 6=v6 at G
 refine Za (Ya (Ya (rZ G (qJ qZ) V [27,6,5,4] [104,103,0] fun G=>Yg ?_)))
 replace G:=G.turn 103 rfl (r':=.ob (.val v5) (ZmV 289 (fun x=>PV.int .i64 x) (ZeN d))) (fun τ w f y h=>ZhC (f:=(fun x=>PV.int .i64 x)) (l:=ZeN d) τ w f y h)
 replace G:=G.turn 104 rfl (r':=.ob (.val v6) (ZmV 289 (fun x=>PV.int .i64 x) (ZeN e))) (fun τ w f y h=>ZhC (f:=(fun x=>PV.int .i64 x)) (l:=ZeN e) τ w f y h)
 obtain ⟨F,G⟩:=G.nM [27,6,5] [104,103,0]
 refine Za2 (σ:=Nat) (fun s=>(⟨[(5,.pv (.is v5)),(6,.pv (.is v6)),(27,.pv (.int .i64 s))],[(0,frame B),(103,.ob (.val v5) (ZmV 289 (fun x=>PV.int .i64 x) (ZeN d))),(104,.ob (.val v6) (ZmV 289 (fun x=>PV.int .i64 x) (ZeN e)))]⟩:En)) (fun s=>s≤4 ∧ ∀ j,j<s→Nn (ZeN d) j=Nn (ZeN e) j) (fun s=>4 - s) 0 G ⟨by decide,fun j hj=>absurd hj (YX j)⟩ ?_
 clear G;intro k a w F hC G
 try dsimp only at hC
 try dsimp only at G
 obtain ⟨hk,hq⟩:=hC
 refine Ya (rZ G (qf (Zay .t qi) r1 qz qZ) V [28,27,6,5] [104,103,0] fun G=>Ya ?_)
 refine Zc G rfl (fun hc0=>?_) (fun hc0=>?_)
 ·have hkl:k<4:=by simp at hc0;omega
  refine Ye (Za (Ya (Yg (Ya (rZ G (qR rr (qO rr qZ)) V [27,7,6,5] [104,103,0] fun G=>Ya ?_)))))
  refine Zx G (qR rr (qf (Zb0 (sz:=1) 103 underlying289 kr .is .t ow ow) r2 r1 (qf (ZiO 103 .adr kr kr (by simp only [ZeN,Yl,Yy];omega)) r1 r1 (qR rr (qf (Zb0 (sz:=1) 104 underlying289 kr .is .t ow ow) r2 r1 (qf (ZiO 104 .adr kr kr (by simp only [ZeN,Yl,Yy];omega)) r1 r1 (qf (oP (Zuy _ _) func110 (Args.two .t .t)) r2 qz (qO rr qZ)))))))) V [27,8,6,5] [104,103,0] rfl rfl fun a w F G=>?_
  try dsimp only [List.map,xD,xE,xT,xU,ldSF] at G
  simp only [Y2,Ybs,Yb] at G
  refine Za (Ya (rZ G (qR rr (qf (o_neq .t qi) r1 qz qZ)) V [38,27,8,6,5] [104,103,0] fun G=>?_))
  refine Zc G rfl (fun hc1=>?_) (fun hc1=>?_)
  ·have hne:ZcT (Nn (ZeN d) k) (Nn (ZeN e) k)≠0:=by simpa using hc1
   have hg:cmpE d e=ZcT (Nn (ZeN d) k) (Nn (ZeN e) k):=Zm1 k _ _ hkl hkl hq (fun e=>hne (ZcG.2 e))
   refine Ya (rZ G (qR rr (qO rr qZ)) V [27,6,5,4] [104,103,0] fun G=>(Yh (Zu (Zk (Zk (Zu (Zk ?_)))))))
   refine Zo hfr G rfl rfl rfl (.int (by rw [hg]))
  have hqk:Nn (ZeN d) k=Nn (ZeN e) k:=ZcG.1 (by simpa using hc1)
  refine Ye (Zj (Za (rZ G (qp r1 (qR rr qZ)) V [27,6,5] [104,103,0] fun G=>?_)))
  replace G:=G.ent (i:=27) (s':=.pv (.int .i64 ((k+1:Nat):Int))) rfl (.int (Zd ow))
  obtain ⟨F,G⟩:=G.nM [27,6,5] [104,103,0]
  exact ⟨k+1,F,⟨by omega,fun j hj=>by rcases YS (YY hj) with h | h;exact hq j h;rw [h];exact hqk⟩,G,by omega⟩
 have hg:cmpE d e=0:=ZkV _ _ rfl fun j hj=>hq j (by simp only [ZeN,Yl,Yy] at hj;simp at hc0;omega)
 refine Yw (Zi (Zi (Zn (Za (Ya (rZ G (qI qZ) V [4] [104,103,0] fun G=>Yh ?_))))))
 refine Zo hfr G rfl rfl rfl (.int (by rw [hg]))
theorem ZtS (x:Int) (hx:0≤x∧x<256):FnP prog 190 [.int .u64 x] (.any):=by
 refine FnP.mk func190 rfl ntmps190 rfl fun B a w F V hfr G=>?_
 have u8w:IntKind.wrap .u8 x=x:=ZfX ⟨by simp [IntKind.min,IntKind.signed,IntKind.bits];omega,by simp [IntKind.max,IntKind.signed,IntKind.bits];omega⟩
 have hx256:x<(256:Nat):=by omega
 refine Ya (rZ G (qI qZ) V [2,0] [0] fun G=>(Ya (Ya ?_)))
 refine rZ G (qR rr (qf (Zbi .t qi) r1 qz qZ)) V [4,2,0] [0] fun G=>?_
 refine Zc G rfl (fun hc0=>?_) (fun hc0=>?_)
 ·simp at hc0;omega
 refine Ye (Za (Ya (Ya (rZ G (qR rr (qf (Zbi .t qi) r1 qz qZ)) V [8,2,0] [0] fun G=>?_))))
 refine Zc G rfl (fun hc1=>?_) (fun hc1=>?_)
 ·simp at hc1;omega
 refine Ye (Za (Ya (Ya (rZ G (qR rr (qf (Zbi .t qi) r1 qz qZ)) V [14,2,0] [0] fun G=>?_))))
 refine Zc G rfl (fun hc2=>?_) (fun hc2=>?_)
 ·simp at hc2;omega
 refine Ye (Za (Ya (rZ G (qR rr (qR rr (qf (o_conv underlying5 kr .t) r1 qz (qf (Zl0 underlying9 (.cs kr) .t (by rw [u8w];omega) (by rw [u8w];exact hx256)) r1 qz (qf (o_conv underlying3 kr .t) r1 qz (qf (o_add .t .t) r2 qz (qO rr qZ))))))) V [2] [0] fun G=>Yh ?_)))
 refine Zo hfr G rfl rfl rfl .any
theorem ZrH (x:Int) (hx:0≤x∧x<256):FnP prog 142 [.int .u64 x] (.any):=by
 refine FnP.mk func142 rfl ntmps142 rfl fun B a w F V hfr G=>Ya ?_
 refine rZ G (qI qZ) V [2,0] [0] fun G=>Ya ?_
 refine wp_cond (by rfl) ?_
 refine Ye (Za (Ya (rZ G (qR rr (qf (oP (ZtS x hx) func190 (Args.one .t)) r1 qz (qO rr qZ))) V [2] [0] fun G=>Yh ?_)))
 refine Zo hfr G rfl rfl rfl .any
theorem Zr4 (v:Value) (l:List Zg) (hl:l.length≤12) (hs:∀ j,0<j→j<l.length→¬ cmpE (Nn l j) (Nn l (j - 1))<0):FnG prog 232 1 [.is v,.int .i64 0,.int .i64 l.length,.is (.func (.func 174) #[] #[])] [ZA 42 4 Zp l v] (.tup []) (fun _=>[ZA 42 4 Zp l v]):=by
 refine FnG.mk func232 rfl ntmps232 rfl kr fun B F0 a w F V hG G=>?_
 have G:=G.turn 1 rfl (r':=RS.ob (.val v) (ZA 42 4 Zp l)) (fun _ _ _ _ h=>h)
 obtain ⟨F,G⟩:=G.nM [3,2,1,0] [1,0]
 refine Ya (rZ G (qR rr (qp r1 (qO rr qZ))) V [8,3,2,1,0] [1,0] fun G=>Yg ?_)
 replace G:=G.ent (i:=8) (s':=.pv (.int .i64 ((1:Nat):Int))) rfl (.int (by decide))
 obtain ⟨F,G⟩:=G.nM [8,3,2,1,0] [1,0]
 refine Za2 (σ:=Nat) (fun s=>(⟨[(0,.pv (.is v)),(1,.pv (.int .i64 0)),(2,.pv (.int .i64 l.length)),(3,.pv (.is (.func (.func 174) #[] #[]))),(8,.pv (.int .i64 s))],[(0,frame B),(1,.ob (.val v) (ZA 42 4 Zp l))]⟩:En)) (fun s=>1≤s∧s≤13) (fun s=>13 - s) 1 G ⟨by decide,by decide⟩ ?_
 clear G;intro i a w F hC G
 try dsimp only at hC
 try dsimp only at G
 obtain ⟨hi1,hi2⟩:=hC
 have hw:IntKind.wrap .i64 ((i:Int) - 1)=((i - 1:Nat):Int):=by rw [Zy ow];omega
 refine Ya (Ya (rZ G (qR rr (qR rr (qL r2))) V [14,8,3,2,1,0] [1,0] fun G=>?_))
 refine Zc G rfl (fun hc0=>?_) (fun hc0=>?_)
 ·have hil:i<l.length:=by simp at hc0;omega
  refine Ye (Za (Ya (Yg (Ya (rZ G (qR rr (qO rr qZ)) V [9,8,3,2,1,0] [1,0] fun G=>Yg ?_)))))
  obtain ⟨F,G⟩:=G.nM [9,8,3,2,1,0] [1,0]
  refine Za2 (σ:=Unit) (fun s=>(⟨[(0,.pv (.is v)),(1,.pv (.int .i64 0)),(2,.pv (.int .i64 l.length)),(3,.pv (.is (.func (.func 174) #[] #[]))),(8,.pv (.int .i64 i)),(9,.pv (.int .i64 i))],[(0,frame B),(1,.ob (.val v) (ZA 42 4 Zp l))]⟩:En)) (fun s=>True) (fun s=>0) () G trivial ?_
  clear G;intro u a w F hC G
  try dsimp only at hC
  try dsimp only at G
  refine Ya (Ya (Zx G (qR rr (qR rr (qf (ZaU .t .t) r2 qz (qR rr (qm rfl rfl rfl rfl (qm rfl rfl rfl rfl (qm rfl rfl rfl rfl (qk rfl (fun h=>o_indexAddr_row (sz:=4) 1 (.mk underlying31 kr) (.w h .is) (.w h) ow ow (by rfl)) r3 r1 (qk rfl (fun h=>Zv (ag:=true) (sz':=4) (sz:=4) 1 (.w h) (by intro x;rfl) ow kr kr kr) r2 r1 (qm rfl rfl rfl rfl (qm rfl rfl rfl rfl (qk rfl (fun h=>o_sub (.w h) qi) r2 qz (qk rfl (fun h=>o_indexAddr_row (sz:=4) 1 (.mk underlying31 kr) (.w h .is) (.w h) (by rw [hw];omega) (by rw [hw];omega) (by rfl)) r3 r1 (qk rfl (fun h=>Zv (ag:=true) (sz':=4) (sz:=4) 1 (.w h) (by intro x;rfl) (by rw [hw];omega) kr kr kr) r2 r1 (qk rfl (fun h=>Zq1 (.w h) (Zpz _ _) func174 rfl kr (Args.two (.pagg (.w h)) (.pagg (.w h)))) r4 qz (qk rfl (fun h=>Zay (.w h) qi) r2 qz (qf (ZD .t .t) r2 qz qZ))))))))))))))))) V [34,9,8,3,2,1,0] [1,0] rfl rfl fun a w F G=>?_))
  try dsimp only [List.map,xD,xE,xT,xU,ldSF] at G
  refine Za (Zc G rfl (fun hc1=>?_) (fun hc1=>?_))
  ·simp only [Yx,Yq,Yb,hw] at hc1
   exact (hs i ow ow hc1.2).elim
  refine Yw (Zi (Zi (Zn (Zj (Za (rZ G (qR rr (qp r1 (qO rr qZ))) V [8,3,2,1,0] [1,0] fun G=>?_))))))
  replace G:=G.ent (i:=8) (s':=.pv (.int .i64 ((i+1:Nat):Int))) rfl (.int (Zd ow))
  obtain ⟨F,G⟩:=G.nM [8,3,2,1,0] [1,0]
  exact ⟨i+1,F,⟨by omega,by omega⟩,G,by omega⟩
 refine Yw (Zi (Zi (Zn ?_)))
 have G:=G.turn 1 rfl (r':=RS.hp (ZA 42 4 Zp l v)) (fun _ _ _ _ h=>h)
 refine Zac hG G rfl .nil Za5.none rfl
theorem Zvj (v:Value) (l:List Zg) (hl:l.length≤12) (hs:∀ j,0<j→j<l.length→¬ cmpE (Nn l j) (Nn l (j - 1))<0):FnG prog 211 1 [.is v,.int .i64 0,.int .i64 l.length,.any,.is (.func (.func 174) #[] #[])] [ZA 42 4 Zp l v] (.tup []) (fun _=>[ZA 42 4 Zp l v]):=by
 refine FnG.mk func211 rfl ntmps211 rfl kr fun B F0 a w F V hG G=>?_
 have G:=G.turn 1 rfl (r':=RS.ob (.val v) (ZA 42 4 Zp l)) (fun _ _ _ _ h=>h)
 obtain ⟨F,G⟩:=G.nM [4,3,2,1,0] [1,0]
 refine Ya (rZ G qB V [10,4,3,2,1,0] [1,0] fun G=>Ya ?_)
 refine rZ G qB V [11,10,4,3,2,1,0] [1,0] fun G=>Yg ?_
 obtain ⟨F,G⟩:=G.nM [4,2,1,0] [1,0]
 refine Za2 (σ:=Unit) (fun s=>(⟨[(0,.pv (.is v)),(1,.pv (.int .i64 0)),(2,.pv (.int .i64 l.length)),(4,.pv (.is (.func (.func 174) #[] #[])))],[(0,frame B),(1,.ob (.val v) (ZA 42 4 Zp l))]⟩:En)) (fun s=>True) (fun s=>0) () G trivial ?_
 clear G;intro u a w F hC G
 try dsimp only at hC
 try dsimp only at G
 refine Yg (Ya (Zf G (qR rr (qR rr (qf (o_sub .t .t) r2 qz (qO rr qZ)))) V [12,4,2,1,0] [1,0] rfl rfl fun a w F G=>?_))
 skip
 refine Za (Ya (Ya (rZ G (qR rr (qf (Zj3 .t qi) r1 qz qZ)) V [25,12,4,2,1,0] [1,0] fun G=>?_)))
 refine Zc G rfl (fun hc0=>?_) (fun hc0=>?_)
 ·refine Ya (rZ G (qR rr (qR rr (qR rr (qR rr (qf (Zbf 1 (Zr4 v l hl hs) func232 rfl kr (Args.four .t .t .t .t)) r4 r1 qZ))))) V [12,4,2,1,0] [1,0] fun G=>(Yh (Zk (Zu (Zk (Zu ?_))))))
  have G:=G.turn 1 rfl (r':=RS.hp (ZA 42 4 Zp l v)) (fun _ _ _ _ h=>h)
  refine Zac hG G rfl .nil Za5.none rfl
 rw [Zy ow] at hc0
 simp at hc0
 omega
theorem Zl6 (v:Value) (l:List Zg) (hl:l.length≤12) (hs:∀ j,0<j→j<l.length→¬ cmpE (Nn l j) (Nn l (j - 1))<0):FnG prog 173 1 [.is v,.is (.func (.func 174) #[] #[])] [ZA 42 4 Zp l v] (.tup []) (fun _=>[ZA 42 4 Zp l v]):=by
 refine FnG.mk func173 rfl ntmps173 rfl kr fun B F0 a w F V hG G=>?_
 have G:=G.turn 1 rfl (r':=RS.ob (.val v) (ZA 42 4 Zp l)) (fun _ _ _ _ h=>h)
 obtain ⟨F,G⟩:=G.nM [1,0] [1,0]
 refine Ya (Zf G (qR rr (qf (Z1 1 underlying31 .is) r1 r1 (qO rr qZ))) V [4,1,0] [1,0] rfl rfl fun a w F G=>?_)
 have hxl:0≤IntKind.wrap .u64 (l.length:Int)∧IntKind.wrap .u64 (l.length:Int)<256:=by rw [Zaf];omega
 refine Za (Zf G (qR rr (qR rr (qR rr (qf (o_conv underlying162 kr .t) r1 qz (qf (oP (ZrH _ hxl) func142 (Args.one .t)) r1 qz (qR rr (qf (Zbf 1 (Zvj v l hl hs) func211 rfl kr (Args.five .t qi .t .t .t)) r4 r1 qZ))))))) V [] [1,0] rfl rfl fun a w F G=>?_)
 have G:=G.turn 1 rfl (r':=RS.hp (ZA 42 4 Zp l v)) (fun _ _ _ _ h=>h)
 refine Zac hG G rfl .nil Za5.none rfl
theorem ZrI (w:World) (yy:Ys):PVs (Zp noE) [.int .i64 0,.int .i64 0,.int .i64 0,.int .i64 0] w yy:=by
 have h:inR .i64 0:=by simp [inR,IntKind.min,IntKind.max,IntKind.signed,IntKind.bits]
 exact ⟨⟨rfl,rfl,h⟩,⟨rfl,rfl,h⟩,⟨rfl,rfl,h⟩,⟨rfl,rfl,h⟩,tv⟩
theorem Zdj:inR .i64 0:=by show IntKind.min .i64≤0∧0≤IntKind.max .i64;decide
def Zq {α:Type} [DecidableEq α]:List α→List α
 | []=>[]
 | [x]=>[x]
 | x :: y :: l=>if x=y then Zq (y :: l) else x :: Zq (y :: l)
theorem Zcn {α:Type} [DecidableEq α] (a b:α):∀ l:List α,Zq (l ++ [a,b])=if a=b then Zq (l ++ [a]) else Zq (l ++ [a]) ++ [b]
 | []=>by
  show (if a=b then [b] else a :: [b])=if a=b then [a] else [a] ++ [b]
  split
  ·rename_i h;rw [h]
  ·rfl
 | [x]=>by
  have ih:=Zcn a b []
  show (if x=a then Zq ([] ++ [a,b]) else x :: Zq ([] ++ [a,b]))=if a=b then (if x=a then Zq ([] ++ [a]) else x :: Zq ([] ++ [a])) else (if x=a then Zq ([] ++ [a]) else x :: Zq ([] ++ [a])) ++ [b]
  rw [ih]
  by_cases h1:x=a <;> by_cases h2:a=b <;> simp [h1,h2]
 | x :: y :: l=>by
  have ih:=Zcn a b (y :: l)
  show (if x=y then Zq (y :: l ++ [a,b]) else x :: Zq (y :: l ++ [a,b]))=if a=b then (if x=y then Zq (y :: l ++ [a]) else x :: Zq (y :: l ++ [a])) else (if x=y then Zq (y :: l ++ [a]) else x :: Zq (y :: l ++ [a])) ++ [b]
  rw [ih]
  by_cases h1:x=y <;> by_cases h2:a=b <;> simp [h1,h2]
theorem Zbo {α:Type} [DecidableEq α] [Inhabited α] {l:List α} {p:Nat} (h1:1≤p) (h2:p<l.length):Zq (l.take (p+1))=if Nn l (p - 1)=Nn l p then Zq (l.take p) else Zq (l.take p) ++ [Nn l p]:=by
 obtain ⟨q,rfl⟩:∃ q,p=q+1:=⟨p - 1,by omega⟩
 rw [Zr h2,Zr (show q<l.length by omega),YJ]
 exact Zcn _ _ _
theorem ZbK {α:Type} [DecidableEq α]:∀ {l:List α},l.length≤1→Zq l=l
 | [],_=>rfl
 | [x],_=>rfl
 | x :: y :: l,h=>by simp at h
structure STO {α:Type} (lt:α→α→Bool):Prop where
 irr:∀ a,lt a a=false
 tr:∀ a b c,lt a b=true→lt b c=true→lt a c=true
 tot:∀ a b,lt a b=false→lt b a=false→a=b
section
variable {α:Type} {lt:α→α→Bool}
theorem STO.asym (h:STO lt) {a b:α} (k:lt a b=true):lt b a=false:=by
 cases e:lt b a with
 | false=>rfl
 | true=>have:=h.tr a b a k e;rw [h.irr] at this;cases this
theorem STO.ne (h:STO lt) {a b:α} (k:lt a b=true):a≠b:=fun e=>by subst e;rw [h.irr] at k;cases k
theorem STO.le (h:STO lt) {a b c:α} (h1:lt a b=true) (h2:lt c b=false):lt a c=true:=by
 cases e:lt a c with
 | true=>rfl
 | false=>
  cases e2:lt c a with
  | true=>have:=h.tr c a b e2 h1;rw [h2] at this;cases this
  | false=>have:=h.tot a c e e2;subst this;rw [h1] at h2;cases h2
abbrev ZoE (lt:α→α→Bool) (l:List α):Prop:=l.Pairwise fun a b=>lt a b=true
theorem ZfS (h:STO lt):∀ {a b:List α},ZoE lt a→ZoE lt b→(∀ x,x ∈ a ↔ x ∈ b)→a=b
 | [],[],_,_,_=>rfl
 | [],y :: b,_,_,k=>by have:=(k y).2 (by simp);cases this
 | x :: a,[],_,_,k=>by have:=(k x).1 (by simp);cases this
 | x :: a,y :: b,ha,hb,k=>by
  have ha':=Yp.1 ha
  have hb':=Yp.1 hb
  have e:x=y:=by
   rcases Yi.1 ((k x).1 (by simp)) with e | e
   ·exact e
   ·rcases Yi.1 ((k y).2 (by simp)) with e2 | e2
    ·exact e2.symm
    ·have h1:=h.asym (hb'.1 x e);rw [ha'.1 y e2] at h1;cases h1
  subst e
  congr 1
  refine ZfS h ha'.2 hb'.2 fun z=>⟨fun hz=>?_,fun hz=>?_⟩
  ·rcases Yi.1 ((k z).1 (by simp [hz])) with e | e
   ·exact absurd e.symm (h.ne (ha'.1 z hz))
   ·exact e
  ·rcases Yi.1 ((k z).2 (by simp [hz])) with e | e
   ·exact absurd e.symm (h.ne (hb'.1 z hz))
   ·exact e
theorem Zlh (h:STO lt) (l:List α):(l.mergeSort fun x y=>!lt y x).Pairwise (fun a b=>lt b a=false):=by
 have:=List.pairwise_mergeSort (le:=fun x y=>!lt y x) (fun a b c h1 h2=>by
  simp at h1 h2 ⊢
  cases e:lt c a with
  | false=>rfl
  | true=>have:=h.le e h1;rw [h2] at this;cases this) (fun a b=>by
  cases e:lt b a with
  | false=>simp
  | true=>simp [h.asym e]) l
 exact this.imp fun h=>by simpa using h
variable [DecidableEq α]
def Zei (lt:α→α→Bool) (e:α):List α→Bool→List α
 | [],d=>if d then [] else [e]
 | x :: l,d=>(if d=false∧lt x e=false then [e] else [])++(if x=e then [] else [x])++Zei lt e l (d || !lt x e)
def Zmm (lt:α→α→Bool) (l:List α) (e:α):List α:=Zei lt e l false
theorem Zje (lt:α→α→Bool) (e:α):∀ (l:List α) (d:Bool),(Zei lt e l d).length≤l.length+(if d then 0 else 1)
 | [],d=>by cases d <;> simp [Zei]
 | x :: l,d=>by
  have ih:=Zje lt e l (d || !lt x e)
  have h1:(if x=e then ([]:List α) else [x]).length≤1:=by split <;> simp
  have h2:(if d=false∧lt x e=false then [e] else ([]:List α)).length+(if (d || !lt x e)=true then 0 else 1)≤if d=true then 0 else 1:=by
   cases d <;> cases lt x e <;> simp
  rw [Zei,Yd,Yd,Yl]
  omega
theorem Zed (h:STO lt) {e:α} : ∀ {l:List α},(∀ x ∈ l,lt e x=true)→Zei lt e l true=l
 | [],_=>rfl
 | x :: l,k=>by
  have h1:=k x (by simp)
  rw [Zei,Yb4,Zed h fun y hy=>k y (by simp [hy]),Yc (by simp),Yc (h.ne h1).symm]
  rfl
theorem ZkJ (h:STO lt) {e:α} : ∀ {l:List α},ZoE lt l→ZoE lt (Zmm lt l e) ∧ ∀ x,x ∈ Zmm lt l e ↔ x ∈ l∨x=e
 | [],_=>by simp [Zmm,Zei]
 | y :: l,k=>by
  have h':=Yp.1 k
  unfold Zmm
  cases h1:lt y e with
  | true=>
   have e1:Zei lt e (y :: l) false=y :: Zei lt e l false:=by
    rw [Zei,Yc (by rw [h1];simp),Yc (h.ne h1),h1];rfl
   have ih:=ZkJ h (e:=e) h'.2
   rw [e1]
   refine ⟨Yp.2 ⟨fun p hp=>?_,ih.1⟩,fun x=>?_⟩
   ·rcases (ih.2 p).1 hp with hp | rfl
    ·exact h'.1 p hp
    ·exact h1
   ·have:=ih.2 x
    unfold Zmm at this
    simp only [Yi,this,or_assoc]
  | false=>
   by_cases h2:y=e
   ·subst h2
    rw [Zei,Yf ⟨rfl,h1⟩,Yf rfl,h1,show (false || !false)=true from rfl,Zed h h'.1]
    exact ⟨k,fun x=>by simp;intro e;exact .inl e⟩
   ·have h3:lt e y=true:=by
     cases e3:lt e y with
     | true=>rfl
     | false=>exact absurd (h.tot y e h1 e3) h2
    rw [Zei,Yf ⟨rfl,h1⟩,Yc h2,h1,show (false || !false)=true from rfl,Zed h fun x hx=>h.tr e y x h3 (h'.1 x hx)]
    refine ⟨Yp.2 ⟨fun p hp=>?_,k⟩,fun x=>by simp;constructor <;> (rintro (h | h | h) <;> simp [h])⟩
    rcases Yi.1 hp with rfl | hp
    ·exact h3
    ·exact h.tr e y p h3 (h'.1 p hp)
def ZbE (lt:α→α→Bool) (l:List α):List α:=l.foldl (Zmm lt) []
theorem Zbz (h:STO lt) (l:List α):ZoE lt (ZbE lt l) ∧ ∀ x,x ∈ ZbE lt l ↔ x ∈ l:=by
 have key:∀ (l acc:List α),ZoE lt acc→ZoE lt (l.foldl (Zmm lt) acc) ∧ ∀ x,x ∈ l.foldl (Zmm lt) acc ↔ x ∈ acc∨x ∈ l:=by
  intro l
  induction l with
  | nil=>intro acc k;exact ⟨k,fun x=>by simp⟩
  | cons y l ih=>
   intro acc k
   have h1:=ZkJ h (e:=y) k
   have h2:=ih (Zmm lt acc y) h1.1
   refine ⟨h2.1,fun x=>?_⟩
   rw [YaE,h2.2 x,h1.2 x,Yi,or_assoc]
 have:=key l [] List.Pairwise.nil
 exact ⟨this.1,fun x=>by rw [show ZbE lt l=l.foldl (Zmm lt) [] from rfl,this.2 x];simp⟩
theorem ZcY (h:STO lt):∀ {l:List α},l.Pairwise (fun a b=>lt b a=false)→ZoE lt (Zq l) ∧ ∀ x,x ∈ Zq l ↔ x ∈ l
 | [],_=>by simp [Zq]
 | [x],_=>by simp [Zq]
 | x :: y :: l,k=>by
  have h':=Yp.1 k
  have ih:=ZcY h h'.2
  show ZoE lt (if x=y then Zq (y :: l) else x :: Zq (y :: l)) ∧ ∀ z,z ∈ (if x=y then Zq (y :: l) else x :: Zq (y :: l)) ↔ _
  split
  ·rename_i e
   subst e
   exact ⟨ih.1,fun z=>by rw [ih.2 z];simp⟩
  ·rename_i e
   have hxy:lt x y=true:=by
    cases e2:lt x y with
    | true=>rfl
    | false=>exact absurd (h.tot x y e2 (h'.1 y (by simp))) e
   refine ⟨Yp.2 ⟨fun z hz=>?_,ih.1⟩,fun z=>by rw [Yi,ih.2 z,← Yi]⟩
   rcases Yi.1 ((ih.2 z).1 hz) with rfl | hz2
   ·exact hxy
   ·exact h.le hxy ((Yp.1 h'.2).1 z hz2)
theorem ZiB (h:STO lt) (l:List α):Zq (l.mergeSort fun x y=>!lt y x)=ZbE lt l:=
 ZfS h (ZcY h (Zlh h l)).1 (Zbz h l).1 fun x=>by rw [(ZcY h (Zlh h l)).2,(Zbz h l).2];exact (YaW l _).mem_iff
end
theorem Zu5 (d e:Zg):(decide (d.src=e.src) && (decide (d.dst=e.dst) && (decide (d.kind=e.kind) && (decide (d.key=e.key) && true))))=decide (d=e):=by
 cases d;cases e
 rw [Yan]
 simp
def ltE (a b:Zg):Bool:=decide (cmpE a b<0)
theorem ZkW (a b:Zg):(cmpE a b<0 ↔ a.src<b.src∨a.src=b.src∧(a.kind<b.kind∨a.kind=b.kind∧(a.key<b.key∨a.key=b.key∧a.dst<b.dst))):=by
 unfold cmpE ZeN Zge
 by_cases h1:a.src=b.src
 ·rw [Yf h1]
  unfold Zge
  by_cases h2:a.kind=b.kind
  ·rw [Yf h2]
   unfold Zge
   by_cases h3:a.key=b.key
   ·rw [Yf h3]
    unfold Zge
    by_cases h4:a.dst=b.dst
    ·rw [Yf h4];unfold Zge;simp;omega
    ·rw [Yc h4];unfold ZcT;split <;> (try split) <;> omega
   ·rw [Yc h3];unfold ZcT;split <;> (try split) <;> omega
  ·rw [Yc h2];unfold ZcT;split <;> (try split) <;> omega
 ·rw [Yc h1];unfold ZcT;split <;> (try split) <;> omega
theorem ZsT (a b:Zg):ltE a b=true ↔ a.src<b.src∨a.src=b.src∧(a.kind<b.kind∨a.kind=b.kind∧(a.key<b.key∨a.key=b.key∧a.dst<b.dst)):=by unfold ltE;rw [Yq,ZkW]
theorem ZjG (a b:Zg):ltE a b=false ↔ ¬ (a.src<b.src∨a.src=b.src∧(a.kind<b.kind∨a.kind=b.kind∧(a.key<b.key∨a.key=b.key∧a.dst<b.dst))):=by unfold ltE;rw [Yz,ZkW]
theorem ZbZ:STO ltE where
 irr a:=by rw [ZjG];omega
 tr a b c h1 h2:=by rw [ZsT] at *;omega
 tot a b h1 h2:=by
  rw [ZjG] at h1 h2
  cases a;cases b
  simp only [Zg.mk.injEq] at *
  omega
def ZcJ (l:List Zg):List Zg:=l.mergeSort fun x y=>!ltE y x
theorem Zl1 (l:List Zg):Zq (ZcJ l)=ZbE ltE l:=ZiB ZbZ l
theorem Zi1 (l:List Zg):(ZcJ l).length=l.length:=Ybr l
theorem ZfY {α:Type} [Inhabited α] {p:α→Bool} {l:List α} {j:Nat} (h:j<l.length):(l.take (j+1)).filter p=(l.take j).filter p++if p (Nn l j)=true then [Nn l j] else []:=by
 rw [Zr h,Yae]
 congr 1
 by_cases e:p (Nn l j)=true
 ·rw [Yf e];simp [e]
 ·rw [Yc e];simp at e;simp [e]
def Z3 {α:Type} [Inhabited α] (p:α→Bool) (l:List α):Int:=match l.findIdx? p with
 | some i=>i
 | none=>-1
theorem ZbT {α:Type} [Inhabited α] {p:α→Bool} {l:List α} (h:∀ k,k<l.length→p (Nn l k)=false):Z3 p l = -1:=by
 unfold Z3
 have:l.findIdx? p=none:=List.findIdx?_eq_none_iff.2 fun x hx=>by
  obtain ⟨k,hk,rfl⟩:=YaZ.1 hx
  rw [← nth_eq hk];exact h k hk
 rw [this]
theorem Zc7 {α:Type} [Inhabited α] {p:α→Bool} {l:List α} {i:Nat} (hi:i<l.length) (h:p (Nn l i)=true) (h2:∀ k,k<i→p (Nn l k)=false):Z3 p l=i:=by
 unfold Z3
 have:l.findIdx? p=some i:=List.findIdx?_eq_some_iff_getElem.2 ⟨hi,by rw [← nth_eq hi];exact h,fun k hk=>by rw [← nth_eq ow,h2 k hk];decide⟩
 rw [this]
theorem ZbH {α:Type} [Inhabited α] (p:α→Bool) (l:List α):(Z3 p l = -1 ∧ ∀ k,k<l.length→p (Nn l k)=false) ∨ ∃ i:Nat,Z3 p l=i∧i<l.length∧p (Nn l i)=true ∧ ∀ k,k<i→p (Nn l k)=false:=by
 cases h:l.findIdx? p with
 | none=>
  left
  refine ⟨by unfold Z3;rw [h],fun k hk=>?_⟩
  have:=List.findIdx?_eq_none_iff.1 h l[k] (Ybm hk)
  rw [nth_eq hk];exact this
 | some i=>
  right
  obtain ⟨h1,h2,h3⟩:=List.findIdx?_eq_some_iff_getElem.1 h
  refine ⟨i,by unfold Z3;rw [h],h1,by rw [nth_eq h1];exact h2,fun k hk=>?_⟩
  rw [nth_eq ow]
  simpa using h3 k hk
theorem ZgV {α:Type} [Inhabited α] {p:α→Bool} {l:List α} (h:∀ k,k<l.length→p (Nn l k)=false):l.filter (fun x=>!p x)=l:=by
 rw [List.filter_eq_self]
 intro x hx
 obtain ⟨k,hk,rfl⟩:=YaZ.1 hx
 rw [← nth_eq hk,h k hk];rfl
theorem ZlX {α:Type} [Inhabited α] {p:α→Bool} {l:List α} {i:Nat} (hi:i<l.length) (hip:p (Nn l i)=true) (hib:∀ k,k<i→p (Nn l k)=false):l.take i=(l.take (i+1)).filter fun x=>!p x:=by
 have h:(l.take i).filter (fun x=>!p x)=l.take i:=ZgV fun k hk=>by
  rw [Yj] at hk
  rw [nth_eq (by rw [Yj];omega),List.getElem_take,← nth_eq ow]
  exact hib k ow
 rw [ZfY (p:=fun x=>!p x) hi,hip,h];simp
theorem Zho (l:List Int) (hl:l.length≤1000000):FnG prog 42 1 [.sl rInt l] [.star []] (PV.one) (fun v=>[ZA 3 1 rInt l v]):=by
 refine FnG.mk func42 rfl ntmps42 rfl kr fun B F0 a w F V hG G=>?_
 obtain ⟨F,G⟩:=G.nM [0] [0]
 refine Ya (rZ G (qC qZ) V [2,0] [0] fun G=>(Ya (Ya ?_)))
 refine Zf G (qR rr (qf (Zby underlying45 .t) r1 qz qZ)) V [4,2,0] [0] rfl rfl fun a w F G=>?_
 obtain ⟨β4,hβ4,G⟩:=G.pickBool 4 rfl
 obtain ⟨F,G⟩:=G.nM [4,2,0] [0]
 refine Za (Zc G rfl (fun hc0=>?_) (fun hc0=>?_))
 ·have hg:l = []:=hβ4 hc0
  refine Ya (rZ G (qC qZ) V [2,0] [0] fun G=>(Yh (Zk ?_)))
  have G:=G.fresh 1 rfl
  have G:=G.turn 1 rfl (ZaA (T:=3) (sz:=1) (R:=rInt))
  have G:=G.turn 1 rfl (r':=RS.hp (ZA 3 1 rInt l (.slice none 0 0))) (fun _ _ _ _ h=>by rw [hg];exact h)
  refine Z8 (h':=fun v=>ZA 3 1 rInt l v) hG G rfl (.tmp rfl .nil) (.one .one) rfl
 have hg:l = [] ++ l:=rfl
 refine Ye (Za (Ya (Zb G (qf (ZaW (R:=rInt) (sz:=1) 101 underlying45 kr) trivial qz (qR rr (qf (ZW (sz:=1) (bs:=8) 101 (.mk' underlying45 kr kr) (by intro x;rfl) .same (.sl .t) (by simp only [Yd,Yy];omega) (by decide)) ⟨rfl,rfl,tv⟩ ⟨rfl,tv⟩ (qO rr qZ)))) V [2] [101,0] (fun _=>rfl) (fun _=>rfl) fun τ a w F G=>?_)))
 try dsimp only [RS.sub,SF.sub,CF.sub,csub,Anc.sub,List.map,Ze,xL,xM,Nat.reduceAdd,xD,xE,xT,xU,xC,xN,zCF,rInt] at G
 generalize τ 7=v7 at G
 refine Za (Yh ?_)
 obtain ⟨F,G⟩:=G.rename 101 1 rfl rfl
 have G:=G.turn 1 rfl (r':=RS.hp (ZA 3 1 rInt l v7)) (fun _ _ _ _ h=>by rw [hg];exact h)
 refine Z8 (h':=fun v=>ZA 3 1 rInt l v) hG G rfl (.tmp rfl .nil) (.one .one) rfl
theorem Zj2 (v:Value) (l:List Int) (hll:l.length≤1000000):FnG prog 179 1 [.is v] [ZA 3 1 rInt l v] (PV.one) (fun v=>[ZA 3 1 rInt (Zq l) v]):=by
 refine FnG.mk func179 rfl ntmps179 rfl kr fun B F0 a w F V hG G=>?_
 replace G:=G.turn 1 rfl (r':=.ob (.val v) (ZA 3 1 rInt l)) (fun _ _ _ _ h=>h)
 refine Ya (rZ G (qC qZ) V [2,0] [1,0] fun G=>(Ya (Ya ?_)))
 refine rZ G (qR rr (qf (Z1 1 underlying45 .is) r1 r1 (qf (Zay .t qi) r1 qz qZ))) V [8,2,0] [1,0] fun G=>?_
 refine Zc G rfl (fun hc0=>?_) (fun hc0=>?_)
 ·have hg:(Zq l)=l:=ZbK (by simp at hc0;omega)
  refine Ya (rZ G (qR rr (qO rr qZ)) V [2,0] [1,0] fun G=>(Yh (Zk ?_)))
  have G:=G.turn 1 rfl (r':=RS.hp (ZA 3 1 rInt (Zq l) v)) (fun _ _ _ _ h=>by rw [hg];exact h)
  refine Z8 (h':=fun v=>ZA 3 1 rInt (Zq l) v) hG G rfl (.tmp rfl .nil) (.one .one) rfl
 have hl2:2≤l.length:=by simp at hc0;omega
 refine Ye (Za (Ya (Ya (rZ G (qI qZ) V [3,2,0] [1,0] fun G=>Yg ?_))))
 refine Zl (σ:=Nat) [0,2] [0,1] (fun s=>[(3,.pv (.int .i64 (s:Int)))]) (fun s=>[]) (fun s=>1≤s∧s≤l.length∧Zq (l.take s)=l.take s) (fun s=>l.length - s) (1) G ⟨rfl,rfl,rfl,tv⟩ ⟨rfl,rfl,tv⟩ ⟨by omega,by omega,ZbK (by rw [Yj];omega)⟩ ?_
 clear G;intro k a w F hC G
 try dsimp only at hC
 obtain ⟨F,G⟩:=G.nM [3,2,0] [1,0]
 try dsimp only at G
 obtain ⟨hk1,hkl,hkc⟩:=hC
 have hkw:IntKind.wrap .i64 ((k:Int) - 1)=(k:Int) - 1:=Zy ow
 refine Ya (Ya (rZ G (qR rr (qR rr (qf (Z1 1 underlying45 .is) r1 r1 (qL r2)))) V [13,3,2,0] [1,0] fun G=>?_))
 refine Zc G rfl (fun hc1=>?_) (fun hc1=>?_)
 ·have hil:k<l.length:=by simp at hc1;omega
  have hst:=Zbo (l:=l) hk1 hil
  have hy0:(IntKind.wrap .i64 ((k:Int) - 1)).toNat=k - 1:=by rw [hkw];omega
  refine Ye (Za (Ya (Yg (Ya (Zx G (qR rr (qR rr (qf (o_indexAddr_row (sz:=1) 1 (.mk underlying45 kr) .is .t ow ow (by rfl)) r2 r1 (qf (Zv (ag:=false) (sz':=1) (sz:=1) 1 .t (by intro x;rfl) ow kr kr kr) r1 r1 (qR rr (qR rr (qf (o_sub .t qi) r1 qz (qf (o_indexAddr_row (sz:=1) 1 (.mk underlying45 kr) .is .t (by rw [hkw];omega) (by rw [hkw];omega) (by rfl)) r2 r1 (qf (Zv (ag:=false) (sz':=1) (sz:=1) 1 .t (by intro x;rfl) (by rw [hkw];omega) kr kr kr) r1 r1 (qf (o_eql .t .t) r2 qz qZ)))))))))) V [25,3,2,0] [1,0] rfl rfl fun a w F G=>?_)))))
  try dsimp only [List.map,xD,xE,xT,xU,ldSF,rInt] at G
  try simp only [Yb] at G
  refine Za (Zc G rfl (fun hc2=>?_) (fun hc2=>?_))
  ·have heq:Nn l (k - 1)=Nn l k:=by rw [hy0] at hc2;simp at hc2;exact hc2.symm
   rw [Yf heq,hkc] at hst
   have hst0:=hst.symm
   refine Ya (rZ G (qR rr (qR rr (qf (ZaV (sz:=1) 1 (.mk underlying45 kr) .is .t ow ow) r2 r1 (qO rr qZ)))) V [4,3,2,0] [1,0] fun G=>(Ya (Ya ?_)))
   refine rZ G (qI qZ) V [5,4,3,2,0] [1,0] fun G=>Yg ?_
   have hC0:1≤1∧1≤l.length - k∧k≤k∧k≤k+1 - 1∧l.length=l.length∧l.take k=Zq (l.take (k+1)) ∧ ∀ q,k+1 - 1≤q→q<l.length→Nn l q=Nn l q:=⟨by omega,by omega,by omega,by omega,rfl,hst0,fun q _ _=>rfl⟩
   refine Zl (σ:=Nat×Nat×List Int) [0,2,4] [0] (fun s=>[(3,.pv (.int .i64 (s.1:Int))),(5,.pv (.int .i64 (s.2.1:Int)))]) (fun s=>[(1,.ob (.val v) (ZA 3 1 rInt s.2.2))]) (fun s=>1≤s.2.1∧s.2.1≤l.length - k∧k≤s.1∧s.1≤k+s.2.1 - 1∧s.2.2.length=l.length∧s.2.2.take s.1=Zq (l.take (k+s.2.1)) ∧ ∀ q,k+s.2.1 - 1≤q→q<l.length→Nn s.2.2 q=Nn l q) (fun s=>l.length - s.2.1) ((k),(1),(l)) G ⟨rfl,rfl,rfl,rfl,rfl,tv⟩ ⟨rfl,rfl,tv⟩ hC0 ?_
   clear G;intro s a w F hC G
   obtain ⟨k1,j,l1⟩:=s
   try dsimp only at hC
   obtain ⟨F,G⟩:=G.nM [5,4,3,2,0] [1,0]
   try dsimp only at G
   obtain ⟨hj1,hjk,hkk,hkj,hl1,htk,hrest⟩:=hC
   have hjw:IntKind.wrap .i64 ((j:Int) - 1)=(j:Int) - 1:=Zy ow
   refine Ya (Ya (rZ G (qR rr (qR rr (qf (ZiW 1 underlying45 .t ow) r1 r1 (qL r2)))) V [32,5,4,3,2,0] [1,0] fun G=>?_))
   refine Zc G rfl (fun hc3=>?_) (fun hc3=>?_)
   ·have hjl:k+j<l.length:=by simp at hc3;omega
    have hx1:(Nn l1 (((k:Int)).toNat+((j:Int)).toNat))=Nn l (k+j):=by rw [Yb,Yb];exact hrest _ ow hjl
    have hx0:Nn l1 (((k:Int)).toNat+(IntKind.wrap .i64 ((j:Int) - 1)).toNat)=Nn l (k+j - 1):=by rw [hjw,show ((k:Int)).toNat+((j:Int) - 1).toNat=k+j - 1 by omega];exact hrest _ ow ow
    have hstp:=Zbo (l:=l) (p:=k+j) ow hjl
    refine Ye (Za (Ya (Yg (Ya (Zx G (qR rr (qR rr (qf (o_indexAddr_sub (sz:=1) 1 (.mk underlying45 kr) .t .t ow ow (by rfl)) r2 r1 (qf (Zv (ag:=false) (sz':=1) (sz:=1) 1 .t (by intro x;rfl) ow kr kr kr) r1 r1 (qR rr (qR rr (qf (o_sub .t qi) r1 qz (qf (o_indexAddr_sub (sz:=1) 1 (.mk underlying45 kr) .t .t (by rw [hjw];omega) (by rw [hjw];omega) (by rfl)) r2 r1 (qf (Zv (ag:=false) (sz':=1) (sz:=1) 1 .t (by intro x;rfl) (by rw [hjw];omega) kr kr kr) r1 r1 (qf (o_neq .t .t) r2 qz qZ)))))))))) V [44,5,4,3,2,0] [1,0] rfl rfl fun a w F G=>?_)))))
    try dsimp only [List.map,xD,xE,xT,xU,ldSF,rInt] at G
    try simp only [Yb] at G
    refine Za (Zc G rfl (fun hc4=>?_) (fun hc4=>?_))
    ·have hne:¬ Nn l (k+j - 1)=Nn l (k+j):=by rw [← hx1,← hx0];simp at hc4 ⊢;exact fun e=>hc4 e.symm
     rw [Yc hne] at hstp
     obtain ⟨i2,hi2e⟩:∃ i2,i2=k1+1:=⟨_,rfl⟩
     have hi2:IntKind.wrap .i64 ((k1:Int)+1)=(i2:Int):=by rw [hi2e];exact Zd ow
     obtain ⟨l2,hl2e⟩:∃ l2,l2=l1.set k1 (Nn l1 (k+j)):=⟨_,rfl⟩
     have hx1b:Nn l1 (k+j)=Nn l (k+j):=hrest _ ow hjl
     have hC2:1≤j+1∧j+1≤l.length - k∧k≤i2∧i2≤k+(j+1) - 1∧l2.length=l.length∧l2.take i2=Zq (l.take (k+(j+1))) ∧ ∀ q,k+(j+1) - 1≤q→q<l.length→Nn l2 q=Nn l q:=⟨by omega,by omega,by omega,by omega,by rw [hl2e,YT];exact hl1,by rw [hl2e,hi2e,Zr (by rw [YT];omega),List.take_set_of_le (YO _),htk,nth_eq (by rw [YT];omega),YbK,hx1b];exact hstp.symm,fun q hq hq2=>by rw [hl2e,nth_eq (by rw [YT];omega),List.getElem_set_ne ow,← nth_eq ow];exact hrest q ow hq2⟩
     refine Ya (Zf G (qR rr (qR rr (qR rr (qR rr (qf (o_indexAddr_sub (sz:=1) 1 (.mk underlying45 kr) .t .t ow ow (by rfl)) r2 r1 (qf (Zv (ag:=false) (sz':=1) (sz:=1) 1 .t (by intro x;rfl) ow kr kr kr) r1 r1 (qf (o_indexAddr_row (sz:=1) 1 (.mk underlying45 kr) .is .t ow ow (by rfl)) r2 r1 (qf (ZF (R:=rInt) (sz:=1) (v:=(Nn l1 (((k:Int)).toNat+((j:Int)).toNat))) 1 .t (by intro x;rfl) ow .t rfl one_int kr) r2 r1 qZ)))))))) V [5,4,3,2,0] [1,0] rfl rfl fun a w F G=>?_)
     try simp only [Yb] at G
     rw [← hl2e] at G
     refine Za (Zf G (qR rr (qp r1 (qO rr qZ))) V [5,4,3,2,0] [1,0] rfl rfl fun a w F G=>Zj (Za ?_))
     refine rZ G (qR rr (qp r1 (qO rr qZ))) V [5,4,3,2,0] [1,0] fun G=>?_
     have hmu:l.length - (j+1)<l.length - j:=by omega
     replace G:=G.ent (i:=3) (s':=.pv (.int .i64 (i2:Int))) rfl (.int hi2)
     replace G:=G.ent (i:=5) (s':=.pv (.int .i64 ((j+1:Nat):Int))) rfl (.int (Zd ow))
     obtain ⟨F,G⟩:=G.nM [4,2,0,5,3] [0,1]
     exact ⟨((i2),(j+1),(l2)),F,hC2,G,hmu⟩
    have heq2:Nn l (k+j - 1)=Nn l (k+j):=by rw [← hx1,← hx0];simp at hc4 ⊢;exact hc4.symm
    rw [Yf heq2] at hstp
    obtain ⟨i2,hi2e⟩:∃ i2,i2=k1:=⟨_,rfl⟩
    have hi2:(k1:Int)=(i2:Int):=by rw [hi2e]
    obtain ⟨l2,hl2e⟩:∃ l2,l2=l1:=⟨_,rfl⟩
    rw [← hl2e] at G
    have hC2:1≤j+1∧j+1≤l.length - k∧k≤i2∧i2≤k+(j+1) - 1∧l2.length=l.length∧l2.take i2=Zq (l.take (k+(j+1))) ∧ ∀ q,k+(j+1) - 1≤q→q<l.length→Nn l2 q=Nn l q:=⟨by omega,by omega,by omega,by omega,by rw [hl2e];exact hl1,by rw [hl2e,hi2e,htk];exact hstp.symm,fun q hq hq2=>by rw [hl2e];exact hrest q ow hq2⟩
    refine Ye (Zj (Za (rZ G (qR rr (qp r1 (qO rr qZ))) V [5,4,3,2,0] [1,0] fun G=>?_)))
    have hmu:l.length - (j+1)<l.length - j:=by omega
    replace G:=G.ent (i:=3) (s':=.pv (.int .i64 (i2:Int))) rfl (.int hi2)
    replace G:=G.ent (i:=5) (s':=.pv (.int .i64 ((j+1:Nat):Int))) rfl (.int (Zd ow))
    obtain ⟨F,G⟩:=G.nM [4,2,0,5,3] [0,1]
    exact ⟨((i2),(j+1),(l2)),F,hC2,G,hmu⟩
   have hjl:k+j=l.length:=by simp at hc3;omega
   have hg:(Zq l)=(l1.take k1++List.replicate (l1.length - k1) (0:Int)).take k1:=by rw [Y0 (by rw [Yj];omega),YaM,Yb3,htk,hjl,YD]
   refine Yw (Zi (Zi (Zn (Za (Ya (rZ G (qR rr (qR rr (qf (ZaV (sz:=1) 1 (.mk underlying45 kr) .is .t ow ow) r2 r1 (qf (Zdp (R:=rInt) (z:=(0:Int)) (zs:=[.int .i64 0]) 1 underlying45 kr rfl rfl (fun _ _=>⟨⟨rfl,rfl,Zdj⟩,tv⟩) (by intro x;rfl) .t (by simp;omega)) r1 r1 qZ)))) V [3,2,0] [1,0] fun G=>Ya ?_))))))
   refine Zb G (qR rr (qR rr (qf (ZcV (sz:=1) 1 (.mk underlying45 kr) (by intro x;rfl) .is .t ow (by simp;omega)) r2 r1 (qO rr qZ)))) V [3,2,0] [1,0] (fun _=>rfl) (fun _=>rfl) fun τ a w F G=>?_
   try dsimp only [RS.sub,SF.sub,CF.sub,csub,Anc.sub,List.map,rInt] at G
   generalize τ 59=v59 at G
   refine Za (Yh (Zu (Zk (Zk (Zu (Zk ?_))))))
   have G:=G.turn 1 rfl (r':=RS.hp (ZA 3 1 rInt (Zq l) v59)) (fun _ _ _ _ h=>by rw [hg];exact h)
   refine Z8 (h':=fun v=>ZA 3 1 rInt (Zq l) v) hG G rfl (.tmp rfl .nil) (.one .one) rfl
  have hne:¬ Nn l (k - 1)=Nn l k:=by rw [hy0] at hc2;simp at hc2;exact fun e=>hc2 e.symm
  rw [Yc hne] at hst
  refine Ye (Zj (Za (rZ G (qR rr (qp r1 (qO rr qZ))) V [3,2,0] [1,0] fun G=>?_)))
  replace G:=G.ent (i:=3) (s':=.pv (.int .i64 ((k+1:Nat):Int))) rfl (.int (Zd ow))
  obtain ⟨F,G⟩:=G.nM [2,0,3] [1,0]
  exact ⟨(k+1),F,⟨by omega,by omega,by rw [hst,hkc,← Zr hil]⟩,G,by omega⟩
 have hg:(Zq l)=l:=by rw [show k=l.length by simp at hc1;omega,YD] at hkc;exact hkc
 refine Yw (Zi (Zi (Zn (Za (Ya (rZ G (qR rr (qO rr qZ)) V [2] [1,0] fun G=>Yh ?_))))))
 have G:=G.turn 1 rfl (r':=RS.hp (ZA 3 1 rInt (Zq l) v)) (fun _ _ _ _ h=>by rw [hg];exact h)
 refine Z8 (h':=fun v=>ZA 3 1 rInt (Zq l) v) hG G rfl (.tmp rfl .nil) (.one .one) rfl
def Zde (n:Int):List Int→Bool→List Int
 | [],d=>if d then [] else [n]
 | x :: l,d=>(if d=false∧n≤x then [n] else [])++(if x=n then [] else [x])++Zde n l (d || decide (n≤x))
def ZlM (l:List Int) (n:Int):List Int:=Zde n l false
abbrev Zdg (l:List Int):Prop:=l.Pairwise fun a b=>a<b
theorem Zek {n:Int} : ∀ {l:List Int},(∀ x ∈ l,n<x)→Zde n l true=l
 | [],_=>rfl
 | x :: l,h=>by
  have:=h x (by simp)
  rw [Zde,Yb4,Zek fun y hy=>h y (by simp [hy]),Yc (by simp),Yc ow]
  rfl
theorem Zlg {n:Int} : ∀ {l:List Int},Zdg l→Zdg (ZlM l n) ∧ ∀ x,x ∈ ZlM l n ↔ x ∈ l∨x=n
 | [],_=>by simp [ZlM,Zde]
 | y :: l,h=>by
  have h':=Yp.1 h
  unfold ZlM
  by_cases h1:y<n
  ·have e:Zde n (y :: l) false=y :: Zde n l false:=by
    rw [Zde,Yc ow,Yc ow,show (false || decide (n≤y))=false by simp;omega];rfl
   have ih:=Zlg (n:=n) h'.2
   rw [e]
   refine ⟨Yp.2 ⟨fun p hp=>?_,ih.1⟩,fun x=>?_⟩
   ·rcases (ih.2 p).1 hp with hp | rfl
    ·exact h'.1 p hp
    ·exact h1
   ·have:=ih.2 x
    unfold ZlM at this
    simp only [Yi,this]
    constructor
    ·rintro (h | h | h)
     ·exact .inl (.inl h)
     ·exact .inl (.inr h)
     ·exact .inr h
    ·rintro ((h | h) | h)
     ·exact .inl h
     ·exact .inr (.inl h)
     ·exact .inr (.inr h)
  ·by_cases h2:y=n
   ·subst h2
    rw [Zde,Yf ⟨rfl,Yao _⟩,Yf rfl,show (false || decide (y≤y))=true by simp,Zek h'.1]
    exact ⟨h,fun x=>by simp;intro e;exact .inl e⟩
   ·rw [Zde,Yf ⟨rfl,by omega⟩,Yc h2,show (false || decide (n≤y))=true by simp;omega,Zek fun x hx=>by have:=h'.1 x hx;omega]
    refine ⟨Yp.2 ⟨fun p hp=>?_,h⟩,fun x=>by simp;constructor <;> (rintro (h | h | h) <;> simp [h])⟩
    rcases Yi.1 hp with rfl | hp
    ·omega
    ·have:=h'.1 p hp;omega
def Zbq (l:List Int):List Int:=l.foldl ZlM []
theorem ZR (l:List Int):Zdg (Zbq l) ∧ ∀ x,x ∈ Zbq l ↔ x ∈ l:=by
 have key:∀ (l acc:List Int),Zdg acc→Zdg (l.foldl ZlM acc) ∧ ∀ x,x ∈ l.foldl ZlM acc ↔ x ∈ acc∨x ∈ l:=by
  intro l
  induction l with
  | nil=>intro acc h;exact ⟨h,fun x=>by simp⟩
  | cons y l ih=>
   intro acc h
   have h1:=Zlg (n:=y) h
   have h2:=ih (ZlM acc y) h1.1
   refine ⟨h2.1,fun x=>?_⟩
   rw [YaE,h2.2 x,h1.2 x,Yi]
   constructor
   ·rintro ((h | h) | h)
    ·exact .inl h
    ·exact .inr (.inl h)
    ·exact .inr (.inr h)
   ·rintro (h | h | h)
    ·exact .inl (.inl h)
    ·exact .inl (.inr h)
    ·exact .inr h
 have:=key l [] List.Pairwise.nil
 exact ⟨this.1,fun x=>by rw [show Zbq l=l.foldl ZlM [] from rfl,this.2 x];simp⟩
theorem Zd7:∀ {a b:List Int},Zdg a→Zdg b→(∀ x,x ∈ a ↔ x ∈ b)→a=b
 | [],[],_,_,_=>rfl
 | [],y :: b,_,_,h=>by have:=(h y).2 (by simp);cases this
 | x :: a,[],_,_,h=>by have:=(h x).1 (by simp);cases this
 | x :: a,y :: b,ha,hb,h=>by
  have ha':=Yp.1 ha
  have hb':=Yp.1 hb
  have e:x=y:=by
   rcases Yi.1 ((h x).1 (by simp)) with e | e
   ·exact e
   ·rcases Yi.1 ((h y).2 (by simp)) with e2 | e2
    ·exact e2.symm
    ·have:=hb'.1 x e;have:=ha'.1 y e2;omega
  subst e
  congr 1
  refine Zd7 ha'.2 hb'.2 fun z=>⟨fun hz=>?_,fun hz=>?_⟩
  ·rcases Yi.1 ((h z).1 (by simp [hz])) with e | e
   ·have:=ha'.1 z hz;omega
   ·exact e
  ·rcases Yi.1 ((h z).2 (by simp [hz])) with e | e
   ·have:=hb'.1 z hz;omega
   ·exact e
def ZaN:List Int→List Int
 | []=>[]
 | x :: l=>match ZaN l with
  | []=>[x]
  | y :: m=>if x=y then y :: m else x :: y :: m
theorem ZdK:∀ (x:Int) (l:List Int),∃ m,ZaN (x :: l)=x :: m
 | x,[]=>⟨[],rfl⟩
 | x,y :: l=>by
  obtain ⟨m,hm⟩:=ZdK y l
  unfold ZaN
  rw [hm]
  by_cases h:x=y
  ·subst h;exact ⟨m,Yf rfl⟩
  ·exact ⟨y :: m,Yc h⟩
theorem ZdP (x y:Int) (l:List Int):ZaN (x :: y :: l)=if x=y then ZaN (y :: l) else x :: ZaN (y :: l):=by
 obtain ⟨m,hm⟩:=ZdK y l
 conv=>lhs;unfold ZaN
 rw [hm]
theorem ZcS:∀ {l:List Int},l.Pairwise (fun a b=>a≤b)→Zdg (ZaN l) ∧ ∀ x,x ∈ ZaN l ↔ x ∈ l
 | [],_=>by simp [ZaN]
 | [x],_=>by simp [ZaN]
 | x :: y :: l,h=>by
  have h':=Yp.1 h
  have ih:=ZcS h'.2
  rw [ZdP]
  split
  ·rename_i e
   subst e
   exact ⟨ih.1,fun z=>by rw [ih.2 z];simp⟩
  ·rename_i e
   refine ⟨Yp.2 ⟨fun z hz=>?_,ih.1⟩,fun z=>by rw [Yi,ih.2 z,← Yi]⟩
   have h1:=h'.1 y (by simp)
   rcases Yi.1 ((ih.2 z).1 hz) with rfl | hz2
   ·omega
   ·have:=(Yp.1 h'.2).1 z hz2
    omega
theorem ZmX (l:List Int):List.Pairwise (fun x y=>x≤y) (l.mergeSort leI):=by
 have:=List.pairwise_mergeSort (le:=leI) (fun a b c h1 h2=>by simp [leI] at *;omega) (fun a b=>by simp [leI];omega) l
 exact this.imp fun h=>by simpa [leI] using h
theorem Zdq (l:List Int):ZaN (l.mergeSort leI)=Zbq l:=
 Zd7 (ZcS (ZmX l)).1 (ZR l).1 fun x=>by rw [(ZcS (ZmX l)).2,(ZR l).2];exact (YaW l leI).mem_iff
theorem Zc2:∀ l:List Int,Zq l=ZaN l
 | []=>rfl
 | [x]=>rfl
 | x :: y :: l=>by
  rw [ZdP,← Zc2 (y :: l)];rfl
theorem Zi5 {n:Int} : ∀ (l:List Int) (d:Bool),(Zde n l d).length≤l.length+1
 | [],d=>by cases d <;> simp [Zde]
 | x :: l,d=>by
  have h1:=Zi5 (n:=n) l (d || decide (n≤x))
  have h2:∀ l:List Int,(Zde n l true).length≤l.length:=fun l=>by
   induction l with
   | nil=>simp [Zde]
   | cons y l ih=>
    rw [Zde,Yc (by simp),Yd,Yd,Yb4]
    split <;> simp <;> omega
  rw [Zde,Yd,Yd]
  have h3:=h2 l
  by_cases hA:d=false∧n≤x
  ·rw [show (d || decide (n≤x))=true by simp [hA.2],Yf hA]
   split <;> simp <;> omega
  ·rw [Yc hA]
   split <;> simp <;> omega
structure OpD where
 read:Bool
 key:Int
 tx:Int
 nth:Int
 deriving DecidableEq,Inhabited
structure TxD where
 id:Int
 done:Bool
 ops:List OpD
 deriving DecidableEq,Inhabited
structure OrdD where
 key:Int
 txs:List Int
 deriving DecidableEq,Inhabited
structure Zt where
 txs:List TxD
 orders:List OrdD
 deriving DecidableEq,Inhabited
structure Zg3 where
 was:List TxD
 now:List TxD
 old:List OrdD
 new:List OrdD
 deriving DecidableEq,Inhabited
def rOp (o:OpD):List PV:=[.bool o.read,.int .i64 o.key,.int .i64 o.tx,.int .i64 o.nth]
def rTx (t:TxD):List PV:=[.int .i64 t.id,.bool t.done,.sl rOp t.ops]
def ZP (o:OrdD):List PV:=[.int .i64 o.key,.sl rInt o.txs]
def Zs (h:Zt):List PV:=[.sl rTx h.txs,.sl ZP h.orders]
theorem ZuN {u v:OpD} (h:(!((u.read == v.read) && (decide (u.key=v.key) && (decide (u.tx=v.tx) && (decide (u.nth=v.nth) && true)))))=false):u=v:=by
 cases u;cases v
 simp at h
 simp [h]
theorem Zq9 (l:List OpD) (hl:l.length≤1000000):FnG prog 102 1 [.sl rOp l] [.star []] (PV.one) (fun v=>[ZA 60 4 rOp l v]):=by
 refine FnG.mk func102 rfl ntmps102 rfl kr fun B F0 a w F V hG G=>?_
 obtain ⟨F,G⟩:=G.nM [0] [0]
 refine Ya (rZ G (qC qZ) V [2,0] [0] fun G=>(Ya (Ya ?_)))
 refine Zf G (qR rr (qf (Zby underlying28 .t) r1 qz qZ)) V [4,2,0] [0] rfl rfl fun a w F G=>?_
 obtain ⟨β4,hβ4,G⟩:=G.pickBool 4 rfl
 obtain ⟨F,G⟩:=G.nM [4,2,0] [0]
 refine Za (Zc G rfl (fun hc0=>?_) (fun hc0=>?_))
 ·have hg:l = []:=hβ4 hc0
  refine Ya (rZ G (qC qZ) V [2,0] [0] fun G=>(Yh (Zk ?_)))
  have G:=G.fresh 1 rfl
  have G:=G.turn 1 rfl (ZaA (T:=60) (sz:=4) (R:=rOp))
  have G:=G.turn 1 rfl (r':=RS.hp (ZA 60 4 rOp l (.slice none 0 0))) (fun _ _ _ _ h=>by rw [hg];exact h)
  refine Z8 (h':=fun v=>ZA 60 4 rOp l v) hG G rfl (.tmp rfl .nil) (.one .one) rfl
 have hg:l = [] ++ l:=rfl
 refine Ye (Za (Ya (Zb G (qf (ZaW (R:=rOp) (sz:=4) 101 underlying28 kr) trivial qz (qR rr (qf (ZW (sz:=4) (bs:=32) 101 (.mk' underlying28 kr kr) (by intro x;rfl) .same (.sl .t) (by simp only [Yd,Yy];omega) (by decide)) ⟨rfl,rfl,tv⟩ ⟨rfl,tv⟩ (qO rr qZ)))) V [2] [101,0] (fun _=>rfl) (fun _=>rfl) fun τ a w F G=>?_)))
 try dsimp only [RS.sub,SF.sub,CF.sub,csub,Anc.sub,List.map,Ze,xL,xM,Nat.reduceAdd,xD,xE,xT,xU,xC,xN,zCF,rOp] at G
 generalize τ 7=v7 at G
 refine Za (Yh ?_)
 obtain ⟨F,G⟩:=G.rename 101 1 rfl rfl
 have G:=G.turn 1 rfl (r':=RS.hp (ZA 60 4 rOp l v7)) (fun _ _ _ _ h=>by rw [hg];exact h)
 refine Z8 (h':=fun v=>ZA 60 4 rOp l v) hG G rfl (.tmp rfl .nil) (.one .one) rfl
end Go.Proofs.YtlkpllemoepamaaGreat
