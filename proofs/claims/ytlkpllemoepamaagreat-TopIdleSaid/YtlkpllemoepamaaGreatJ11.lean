/- Texts put together. No condition beyond those that each theorem says. -/
import Derived.Test.YtlkpllemoepamaaGreatJ0
import Derived.Test.YtlkpllemoepamaaGreatJ10
import Derived.Test.YtlkpllemoepamaaGreatJ6
import Derived.Test.YtlkpllemoepamaaGreatJ2
import Derived.Test.YtlkpllemoepamaaGreatLibG
import Derived.Shelf.SlIter.Collect
import Derived.Maps.RangeRun
import Derived.Sort.MapsRangeIn
import Derived.RangeFuncBound
import Derived.Test.YtlkpllemoepamaaGreatJ3
import Derived.Test.YtlkpllemoepamaaGreatJ7
import Derived.Test.YtlkpllemoepamaaGreatJ4
namespace Go.Proofs.YtlkpllemoepamaaGreat
open Go Go.Gm Tryz
set_option linter.unusedVariables false
set_option linter.unusedSimpArgs false
set_option maxHeartbeats 4000000
set_option maxRecDepth 8000
def roomN (n:Int):Nat:=(if n<0 then 0 else if n > 4096 then 4096 else n).toNat
theorem Ze1 (n:Int):roomN n≤4096:=by unfold roomN;split; (· omega);split <;> omega
theorem Zrd (n:Int):(if 4096<(if n<0 then 0 else n) then 4096 else if n<0 then 0 else n)=((roomN n:Nat):Int):=by unfold roomN;split <;> split <;> (try split) <;> omega
theorem Zi0 {w:World} {y:Ys} {r:RS} (hd:r.deps = []) (hr:r.holds tau0 w (fun _=>False) y):∀ n:Nat,stars w y (List.replicate n r) (fun _=>False)
 | 0=>fun _ h=>h
 | n+1=>⟨fun _=>False,fun _=>False,fun b=>by simp,fun _ h=>h.elim,hd,hr,Zi0 hd hr n⟩
theorem Zsu (n:Nat) (s:Value):ZeX (List.replicate n s) (List.replicate n [])=List.replicate n (s,[]):=by
 apply Ya3 (by simp [ZeX])
 intro j h1 h2
 have hj:j<n:=by simpa using h2
 simp [ZeX,nth_eq (l:=List.replicate n s) (i:=j) (by simpa using hj),nth_eq (l:=List.replicate n ([]:List Z8)) (i:=j) (by simpa using hj)]
theorem ZlR {n:Nat} {v:Value} (τ:Tau) (w:World) (f y:Ys) (h:(RS.ob (.val v) (Zy 220 1 rV (List.replicate n (.slice none 0 0)))).holds τ w f y):(RS.hp (ZjH (List.replicate n []) v)).holds τ w f y:=by
 refine ⟨List.replicate n (.slice none 0 0),by simp,f,fun _=>False,fun b=>by simp,fun _ _ h=>h,rfl,h,fun _=>False,fun _=>False,fun b=>by simp,fun _ h=>h.elim,rfl,?_,fun _ h=>h⟩
 show stars w y ((ZeX (List.replicate n (.slice none 0 0)) (List.replicate n [])).map fun x=>RS.hp (Znv x)) fun _=>False
 rw [Zsu,List.map_replicate]
 exact Zi0 (r:=RS.hp (Znv (.slice none 0 0,[]))) rfl (show (Zy 217 3 Zav ([]:List Z8) (.slice none 0 0)).p w (fun _=>False) y from Zln) n
theorem Zli (w:World) (y:Ys):PVs (rV (.slice none 0 0)) [.slice none 0 0] w y:=⟨⟨rfl,rfl,by first | rfl | trivial⟩,tv⟩
theorem ZnS (room:Int):FnG prog 115 1 [.int .i64 room] [.star []] (PV.ptr) (fun v=>[Znr (List.replicate (roomN room) []) (List.replicate (roomN room) []) 0 v]):=by
 refine FnG.mk func115 rfl ntmps115 rfl kr fun B F0 a w F V hG G=>?_
 have hr:=Zrd room
 refine Ya (rZ G (qC qZ) V [2,0] [1,0] fun G=>Ya ?_)
 refine Ze G (qR rr (qf (Zqc .t qi) r1 qz (qf (o_min .t qi) r1 qz (qO rr qZ)))) V [2,0] [1,0] rfl rfl fun a w F G=>?_
 rw [hr] at G
 refine Za (Ya (ZaD G (qR rr (qf (ZaJ (R:=rV) (v:=(.slice none 0 0)) (c:=((roomN room:Nat):Int)) (sz:=1) (bs:=24) (zs:=[.slice none 0 0]) 101 Yco kr kr kr Zli .t .t (Yau _) (by have:=Ze1 room;omega) (by have:=Ze1 room;omega)) r2 qz (qR rr (qf (ZaJ (R:=rV) (v:=(.slice none 0 0)) (c:=((roomN room:Nat):Int)) (sz:=1) (bs:=24) (zs:=[.slice none 0 0]) 102 Yco kr kr kr Zli .t .t (Yau _) (by have:=Ze1 room;omega) (by have:=Ze1 room;omega)) r2 qz (qf (oB [(0,.tmp 7),(1,.tmp 9)] [.slice none 0 0,.slice none 0 0,.int .i64 0] [(0,1),(1,1),(2,1)] (.same rfl kr (.same rfl kr .nil))) r2 qz (qf (oX 103 .t) r1 qz (qO rr qZ))))))) V [2] [103,102,101,1,0] (fun _=>rfl) (fun _=>rfl) fun τ a w F G=>?_))
 try dsimp only [RS.sub,SF.sub,CF.sub,csub,Anc.sub,List.map,Zf,xL,xM,Nat.reduceAdd,xD,xE,xT,xU,xC,xN,zCF,Zav,Zau,Zn,Zao] at G
 generalize τ 11=v11,τ 7=v7,τ 9=v9 at G
 rw [Yb] at G
 refine Za (Yh ?_)
 obtain ⟨b,rfl⟩:=G.shape 103 rfl
 replace G:=G.turn 101 rfl (ZlR)
 replace G:=G.turn 102 rfl (ZlR)
 obtain ⟨F,G⟩:=G.push 1 102 rfl rfl rfl kr
 obtain ⟨F,G⟩:=G.push 1 101 rfl rfl rfl kr
 obtain ⟨F,G⟩:=G.push 1 103 rfl rfl rfl kr
 have G:=G.turn 1 rfl (r':=RS.hp (Znr (List.replicate (roomN room) []) (List.replicate (roomN room) []) 0 (Value.pointer (some { block:=b,off:=0 })))) (fun _ _ _ _ h=>⟨_,_,h⟩)
 refine Z1 (h':=fun v=>Znr (List.replicate (roomN room) []) (List.replicate (roomN room) []) 0 v) hG G rfl (.tmp rfl .nil) (.one .ptr) rfl
theorem Sat.giveL {B:Zbo} {E:En} {a:Act} {w:World} {F:Fp} {v:Value} {ho:HP} {p:PV} (h:Sat B E a w F) (n i:Nat) (hn:Go.Gm.look E.r n=some (RS.hp ho)) (hi:Go.Gm.look E.s i=some (.pv (.is v))) (hl:ZuP ho v p) :
  ∃ F',Sat B ⟨(i,.pv p) :: E.s,(n,RS.hp (HP.star [])) :: E.r⟩ a w F':=by
 have hle:∀ b,U (fun m=>if m=n then fun _=>False else F m) b→U F b:=fun b ⟨m,hm⟩=>⟨m,by
  by_cases e:m=n
  ·simp only [e,Yu] at hm
  ·simp only [e,Yp] at hm;exact hm⟩
 have hev:=Ev.less w hle
 refine ⟨fun m=>if m=n then fun _=>False else F m,⟨fun m k b hm hk=>?_,fun m b hm=>?_⟩,h.ev.trans hev,h.n,h.df,fun j s hj=>?_,fun m r hm=>?_,fun m b hm=>?_⟩
 ·by_cases e1:m=n
  ·simp only [e1,Yu] at hm
  ·by_cases e2:k=n
   ·simp only [e2,Yu] at hk
   ·simp only [e1,e2,Yp] at hm hk;exact h.wf.dis m k b hm hk
 ·by_cases e1:m=n
  ·simp only [e1,Yu] at hm
  ·simp only [e1,Yp] at hm;exact h.wf.bd m b hm
 ·rw [Zm] at hj
  split at hj
  ·rename_i e
   simp only [Y6] at hj;subst hj;subst e
   have hv:Act.tau a i=v:=(h.s i _ hi).1
   show p.p (Act.tau a i) w _
   rw [hv]
   refine hl w (F n) (U F) _ (h.r n _ hn) hle (fun b hb hm=>?_) (fun b hb=>h.wf.bd n b hb)
   obtain ⟨m,hm⟩:=hm
   by_cases e2:m=n
   ·simp only [e2,Yu] at hm
   ·simp only [e2,Yp] at hm
    exact e2 (h.wf.dis m n b hm hb)
  ·exact SF.mono hev (fun _ _=>rfl) (h.s j s hj)
 ·rw [Zm] at hm
  split at hm
  ·rename_i e
   simp only [Y6] at hm;subst hm;subst e
   intro b hb
   simp only [Yu] at hb
  ·rename_i e
   have e2:¬ m=n:=fun h=>e h.symm
   simp only [e2,Yp]
   exact RS.mono hev (fun _ _=>rfl) (fun _ _=>rfl) (h.r m r hm)
 ·by_cases e1:m=n
  ·simp only [e1,Yu] at hm
  ·simp only [e1,Yp] at hm
   obtain ⟨r,hr⟩:=h.em m b hm
   exact ⟨r,by rw [Zm,Yc (fun h=>e1 h.symm)];exact hr⟩
def Zeu (l:List Zg) (mask:Int):List Zg:=l.filter (kindOk mask)
def ZbE (l:List Zg) (mask:Int):List Zx:=(Zeu l mask).map (ZjY (ZH (Zeu l mask)))
theorem ZlN (l:List Zg) (mask:Int) (i:Nat):(Zeu (l.take i) mask).length≤i:=Y1 (Yac _ _) (by rw [Yi];omega)
theorem Zi1 (l:List Zg) (mask:Int) (i:Nat):(ZbE (l.take i) mask).length≤i:=by unfold ZbE;rw [YH];exact ZlN l mask i
theorem Zlo {l:List Zg} {mask:Int} {i:Nat} (hi:i<l.length) (h:kindOk mask (Nn l i)=true):Zeu (l.take (i+1)) mask=Zeu (l.take i) mask ++ [Nn l i]:=by
 unfold Zeu
 rw [Zp hi,Yaa];simp [h]
theorem Zpa {l:List Zg} {mask:Int} {i:Nat} (hi:i<l.length) (h:kindOk mask (Nn l i)=false):Zeu (l.take (i+1)) mask=Zeu (l.take i) mask:=by
 unfold Zeu
 rw [Zp hi,Yaa];simp [h]
theorem Zjt {l:List Zg} {mask:Int} {i:Nat} (hi:i<l.length) (h:kindOk mask (Nn l i)=true):ZaX (ZaX (ZH (Zeu (l.take i) mask)) (Nn l i).src) (Nn l i).dst=ZH (Zeu (l.take (i+1)) mask):=by
 rw [Zlo hi h]
 unfold ZH
 rw [Yat];rfl
theorem Zqf {l:List Zg} {mask:Int} {i:Nat} (hi:i<l.length) (h:kindOk mask (Nn l i)=true):ZbE (l.take i) mask ++ [⟨ZaC (Nn l i).src (ZaX (ZH (Zeu (l.take i) mask)) (Nn l i).src),ZaC (Nn l i).dst (ZaX (ZaX (ZH (Zeu (l.take i) mask)) (Nn l i).src) (Nn l i).dst),(Nn l i).kind,0⟩] = ZbE (l.take (i+1)) mask:=by
 unfold ZbE
 rw [Zlo hi h,ZnW];rfl
theorem ZlM {O I:List (List Z8)} {n:Nat} {v:Value} {w:World} {f y:Ys} (h:(Znr O I n v).p w f y):∃ b,v = .pointer (some ⟨b,0,none⟩):=by
 obtain ⟨_,_,g⟩:=h
 exact HP.star_pt g
theorem ZjM {n:Nat} (h:n≤4096):roomN (n:Int)=n:=by unfold roomN;repeat' split;all_goals omega
theorem ZmJ {l:List Zg} {mask:Int} (x:Zx):x ∈ (ZbE l mask).foldl (Zjm (ZH (Zeu l mask)).length) [] ↔ x ∈ ZbE l mask:=by
 rw [Zil]
 constructor
 ·rintro (h | h)
  ·cases h
  ·exact h.1
 ·intro h
  refine .inr ⟨h,?_⟩
  obtain ⟨e,he,rfl⟩:=Yv.1 h
  exact Zcd he rfl
theorem Zk9 {l:List Zg} {mask:Int} {x:Zx} (h:x ∈ ZbE l mask):(0≤x.src∧x.src<((ZH (Zeu l mask)).length:Int))∧0≤x.dst∧x.dst<((ZH (Zeu l mask)).length:Int):=by
 obtain ⟨e,he,rfl⟩:=Yv.1 h
 have:=ZP.1 (Zcd he rfl)
 exact ⟨this.1,this.2.1⟩
theorem Zt9 (l : List Zx) (p : Zx → Bool) (f : FuncId) (fn : Func) (cps : List PV) (hf : prog.funcs[f]? = some fn) (hb : fn.body.isSome = true) (hnn : (fn.name == "runtime.NumGoroutine") = false) (hw : ∀ x ∈ l, FnP prog f (.agg (Zao x) :: cps) (.bool (p x))) : FnP prog 164 [.sl Zao l, .clos f cps] (.int .i64 (Z2 p l)) := by
 refine FnP.mk func164 rfl ntmps164 rfl fun B a w F V hfr G=>?_
 have hll:=Sat.lenSl G (i:=0) rfl
 refine Ya (rZ G (qI qZ) V [4,1,0] [0] fun G=>(Ya (Ya ?_)))
 refine rZ G (qR rr (qu Ycj r1 (qJ qZ))) V [8,7,4,1,0] [0] fun G=>Yg ?_
 refine Zl (σ:=(Nat)) [0,1,4,7] [0] (fun s=>[(8,.pv (.int .i64 (s:Int)))]) (fun s=>[]) (fun s=>s≤l.length∧(∀ k,k<s→p (Nn l k)=false)) (fun s=>l.length - s) (0) G ⟨rfl,rfl,rfl,rfl,rfl,tv⟩ ⟨rfl,tv⟩ ⟨Yx _,fun k hk=>absurd hk (Y2 k)⟩ ?_
 clear G;intro i a w F hC G
 try dsimp only at hC
 obtain ⟨F,G⟩:=G.nM [8,7,4,1,0] [0]
 try dsimp only at G
 obtain ⟨hi,hq⟩:=hC
 refine Ya (rZ G (qL r2) V [9,8,7,4,1,0] [0] fun G=>Ya ?_)
 refine Zc G rfl (fun hc0=>?_) (fun hc0=>?_)
 ·skip
  have hil:i<l.length:=by simp at hc0;omega
  refine Ye (Za (Ya (Yg (Ya (rZ G (qR rr (qO rr qZ)) V [8,7,5,4,1,0] [0] fun G=>Ya ?_)))))
  refine Ze G (qR rr (qR rr (qR rr (qy 4 Ycj r2 (qf (oR true 4 .t) r1 qz (qf (ZM (avs:=[.agg (Zao (Nn l i))]) .t (hw (Nn l i) (nth_mem ow)) hf hb hnn (Args.one (.pagg .t))) r2 qz qZ)))))) V [16,8,7,5,4,1,0] [0] rfl rfl fun a w F G=>?_
  try simp only [Yb] at G
  refine Za (Zc G rfl (fun hc1=>?_) (fun hc1=>?_))
  ·skip
   have hg:(i:Int)=Z2 p l:=(Zcg hil hc1 hq).symm
   refine Ya (rZ G (qR rr (qO rr qZ)) V [8,7,4,1,0] [0] fun G=>(Yh (ZA (Zk (Zk (ZA (Zk ?_)))))))
   refine Zs hfr G rfl rfl rfl (.int hg)
  have hne:p (Nn l i)=false:=hc1
  refine Ye (Zi (Za (rZ G (qp r1 (qR rr qZ)) V [8,7,4,1,0] [0] fun G=>?_)))
  replace G:=G.ent (i:=8) (s':=.pv (.int .i64 ((i+1:Nat):Int))) rfl (.int (Zd ow))
  obtain ⟨F,G⟩:=G.nM [7,4,1,0,8] [0]
  exact ⟨(i+1),F,⟨by omega,(fun k hk=>by rcases Y0 (Y7 hk) with h | h;exact hq k h;rw [h];exact hne)⟩,G,by omega⟩
 have hil:i=l.length:=by simp at hc0;omega
 have hg : -1=Z2 p l:=(Zbl fun k hk=>hq k (by simp at hc0;omega)).symm
 refine Yw (Zj (Zj (Zo (Za (Ya (rZ G (qI qZ) V [4] [0] fun G=>Yh ?_))))))
 refine Zs hfr G rfl rfl rfl (.int hg)
theorem Zuo (l : List Zx) (p : Zx → Bool) (f : FuncId) (fn : Func) (cps : List PV) (hf : prog.funcs[f]? = some fn) (hb : fn.body.isSome = true) (hnn : (fn.name == "runtime.NumGoroutine") = false) (hw : ∀ x ∈ l, FnP prog f (.agg (Zao x) :: cps) (.bool (p x))) : FnP prog 118 [.sl Zao l, .clos f cps] (.bool (l.any p)) := by
 refine FnP.mk func118 rfl ntmps118 rfl fun B a w F V hfr G=>Ya ?_
 refine rZ G qB V [4,1,0] [0] fun G=>Ya ?_
 refine rZ G (qR rr (qR rr (qf (oP (Zt9 l p f fn cps hf hb hnn hw) func164 (Args.two .t .t)) r2 qz (qf (Zbq .t qi) r1 qz (qO rr qZ))))) V [4] [0] fun G=>Yh ?_
 refine Zs hfr G rfl rfl rfl (.bool (by rw [Zi8]))
theorem Zr1 (x:Zx) (L:List Int) (must:Int) (h1:0≤x.src∧x.src<(L.length:Int)) (h2:0≤x.dst∧x.dst<(L.length:Int)):FnP prog 119 [.agg (Zao x),.ref [.sl Zn L],.ref [.int .i64 must]] (.bool (decide (Nn L x.src.toNat=Nn L x.dst.toNat) && ZgL must x.kind)):=by
 refine FnP.mk func119 rfl ntmps119 rfl fun B a w F V hfr G=>Ya ?_
 refine Zb G (qx 101 r1 qB) V [4,3,2,1] [101,0] (fun _=>rfl) (fun _=>rfl) fun τ a w F G=>?_
 try dsimp only [RS.sub,SF.sub,CF.sub,csub,Anc.sub,List.map,zCF,Zav,Zau,Zn,Zao] at G
 generalize τ 3=v3 at G
 refine Za (Ya (Zv G (qf (oR false 1 .t) r1 qz (qg 0 101 r1 r1 (qa 101 r1 r1 (qf (o_indexAddr_sl (sz:=1) (.mk Ycd kr) (by intro x;rfl) .t .t (by exact h1.1) (by exact h1.2)) r2 qz (qf (oR false 1 .t) r1 qz (qf (oR false 1 .t) r1 qz (qg 1 101 r1 r1 (qa 101 r1 r1 (qf (o_indexAddr_sl (sz:=1) (.mk Ycd kr) (by intro x;rfl) .t .t (by exact h2.1) (by exact h2.2)) r2 qz (qf (oR false 1 .t) r1 qz (qf (o_eql .t .t) r2 qz (qR rr (qk rfl (fun h=>oR false 1 .t) r2 qz (qk rfl (fun h=>o_and (.w h) qi) r2 qz (qk rfl (fun h=>o_eql (.w h) qi) r2 qz (qk rfl (fun h=>oM (.w h)) r2 qz (ZB.cons (ZaF.cond2 rfl rfl (fun h=>ZeF (ag:=false) (sz:=1) .t kr kr kr)) r2 qz (ZB.cons (ZaF.cond2 rfl rfl (fun h=>Z9 (off:=2) 101 .is kr (by rfl))) r2 r1 (ZB.cons (ZaF.cond2 rfl rfl (fun h=>ZbY (ag:=false) (sz:=1) 101 (.w h .adr) kr kr kr (by rfl))) r2 r1 (ZB.cons (ZaF.cond2 rfl rfl (fun h=>o_conv Yck kr (.w h))) r2 qz (ZB.cons (ZaF.cond2 rfl rfl (fun h=>Zci (.w h) (.w h)  (by rw [Zak];omega))) r3 qz (ZB.cons (ZaF.cond2 rfl rfl (fun h=>o_and (.w h) qi)) r2 qz (ZB.cons (ZaF.cond2 rfl rfl (fun h=>o_eql (.w h) qi)) r2 qz (qk rfl (fun h=>Zal (.w h) (.wc h)) r3 qz (qf (ZE .t .t) r2 qz (qO rr qZ)))))))))))))))))))))))))) V [4] [0] rfl rfl fun a w F G=>?_))
 try dsimp only [List.map,xD,xE,xT,xU,ldSF,Zav,Zau,Zn,Zao] at G
 try simp only [Yb] at G
 refine Za (Yh (Zs hfr G rfl rfl rfl (.bool rfl)))
theorem Ztj (l:List Zg) (mask must:Int) (hl:l.length≤100000) (hN:(ZH (Zeu l mask)).length≤4096) (rb:Bool) (hr:rb=true ↔ ZeR l mask must):FnP prog 69 [.sl Zq l,.int .i64 mask,.int .i64 must] (.bool rb):=by
 refine FnP.mk func69 rfl ntmps69 rfl fun B a w F V hfr G=>Ya ?_
 refine Zb G (qf (Zf6 101 .t one_int) r1 qz qB) V [6,5,1,0] [101,0] (fun _=>rfl) (fun _=>rfl) fun τ a w F G=>?_
 try dsimp only [RS.sub,SF.sub,CF.sub,csub,Anc.sub,List.map,zCF,Zq,Zao,Zn] at G
 generalize τ 5=v5 at G
 refine Za (Ya (Zb G (qf (ZoA (vk:=.i64) (ok:=(fun _=>True)) (kv:=(fun n:Int=>Value.int .i64 n)) 102) trivial qz (qO rr qZ)) V [7,6,5,1,0] [102,101,0] (fun _=>rfl) (fun _=>rfl) fun τ a w F G=>?_))
 try dsimp only [RS.sub,SF.sub,CF.sub,csub,Anc.sub,List.map,Zf,xL,xM,Nat.reduceAdd,xD,xE,xT,xU,xC,xN,zCF,Zq,Zao,Zn] at G
 generalize τ 15=v15 at G
 replace G:=G.turn 102 rfl (r':=RS.hp (ZuN [] v15)) (fun _ _ _ _ h=>⟨([],0),Zgu.nil,h⟩)
 obtain ⟨F,G⟩:=G.nM [7,6,5,1,0] [102,101,0]
 refine Za (Ya (rZ G (qC qZ) V [8,7,6,5,1,0] [102,101,0] fun G=>(Ya (Ya ?_))))
 refine rZ G (qR rr (qu Yce r1 (qJ qZ))) V [18,17,16,8,7,6,5,1] [102,101,0] fun G=>Yg ?_
 replace G:=G.fresh 50 rfl
 replace G:=G.turn 50 rfl (ZaE (T:=165) (sz:=4) (R:=Zao))
 refine Zl (σ:=(Nat)×(Value)×(List Zx)) [1,5,6,7,16,17] [0,101] (fun s=>[(18,.pv (.int .i64 (s.1:Int))),(8,.pv (.is s.2.1))]) (fun s=>[(102,RS.hp (ZuN (ZH (Zeu (l.take s.1) mask)) v15)),(50,.ob (.val s.2.1) (Zy 165 4 Zao s.2.2))]) (fun s=>s.1≤l.length∧(s.2.2=ZbE (l.take s.1) mask)) (fun s=>l.length - s.1) ((0),(.slice none 0 0),([])) G ⟨rfl,rfl,rfl,rfl,rfl,rfl,rfl,rfl,tv⟩ ⟨rfl,rfl,rfl,rfl,tv⟩ ⟨Yx _,rfl⟩ ?_
 clear G;intro s a w F hC G
 obtain ⟨i,v,out⟩:=s
 try dsimp only at hC
 obtain ⟨F,G⟩:=G.nM [18,17,16,8,7,6,5,1] [102,101,50,0]
 try dsimp only at G
 obtain ⟨hi,hq⟩:=hC
 have hol:=Zi1 l mask i
 rw [← hq] at hol
 have hnl:=ZmF (Zeu (l.take i) mask)
 have hfl:=ZlN l mask i
 have hnl2:=(ZfC (ZH (Zeu (l.take i) mask)) (Nn l i).src).2
 refine Ya (rZ G (qL r2) V [19,18,17,16,8,7,6,5,1] [102,101,50,0] fun G=>Ya ?_)
 refine Zc G rfl (fun hc0=>?_) (fun hc0=>?_)
 ·have hil:i<l.length:=by simp at hc0;omega
  refine Ye (Za (Ya (Yg (Ya (Zb G (qy 4 Yce r2 (qf (oR true 4 .t) r1 qz (qf (oH [.int .i64 0,.int .i64 0,.int .i64 0,.int .i64 0] 103) trivial qz (qS 4 103 r2 r1 qZ)))) V [18,17,16,10,8,7,6,5,1] [103,102,101,50,0] (fun _=>rfl) (fun _=>rfl) fun τ a w F G=>?_)))))
  try dsimp only [RS.sub,SF.sub,CF.sub,csub,Anc.sub,List.map,Zf,xL,xM,Nat.reduceAdd,xD,xE,xT,xU,xC,xN,zCF,ldSF,Zq,Zao,Zn] at G
  generalize τ 10=v10 at G
  try simp only [Yb] at G
  refine Za (Ya (rZ G (qg 2 103 r1 r1 (qa 103 r1 r1 (qf (Zbq .t qi) r1 qz (qR rr (qv 2 103 rfl r2 r1 (qw 103 rfl r2 r1 (qk rfl (fun h=>Zkz (.w h) qi) r2 qz (qf (ZE .t .t) r2 qz (qR rr (qm rfl rfl rfl rfl (qv 2 103 rfl r2 r1 (qw 103 rfl r2 r1 (qk rfl (fun h=>o_conv Yck kr (.w h)) r2 qz (qk rfl (fun h=>Zci (.w h) (.w h)  (by rw [Zak];omega)) r3 qz (qk rfl (fun h=>o_and (.w h) qi) r2 qz (qk rfl (fun h=>o_eql (.w h) qi) r2 qz (qf (ZE .t .t) r2 qz qZ))))))))))))))))) V [38,18,17,16,10,8,7,6,5,1] [103,102,101,50,0] fun G=>?_))
  refine Zc G rfl (fun hc1=>?_) (fun hc1=>?_)
  ·have hBq:kindOk mask (Nn l i)=true:=by unfold kindOk ofB;simpa using hc1
   refine ZaD G (qR rr (qR rr (qg 0 103 r1 r1 (qa 103 r1 r1 (qf (ZK 102 (ZsR v15 (ZH (Zeu (l.take i) mask)) (Nn l i).src ow) func113 rfl kr (Args.two .t .t)) r2 r1 (qR rr (qg 1 103 r1 r1 (qa 103 r1 r1 (qf (ZK 102 (ZsR v15 (ZaX (ZH (Zeu (l.take i) mask)) (Nn l i).src) (Nn l i).dst ow) func113 rfl kr (Args.two .t .t)) r2 r1 (qg 2 103 r1 r1 (qa 103 r1 r1 (qf (oB [(0,.tmp 43),(1,.tmp 47),(2,.tmp 49)] [.int .i64 0,.int .i64 0,.int .i64 0,.int .i64 0] [(0,1),(1,1),(2,1),(3,1)] (.one rfl .t one_int kr (.one rfl .t one_int kr (.one rfl .t one_int kr .nil)))) r3 qz (qf (o_buildSliceE (sz:=4) (zs:=[.int .i64 0,.int .i64 0,.int .i64 0,.int .i64 0]) (r:=[(0,.tmp 50)]) (l:=[_,_,_,_]) Ycj kr kr kr kr rfl rfl (.agg rfl .t kr kr .nil) rfl) r1 qz (qf (ZR (sz:=4) (bs:=32) 50 (.mk' Ycj kr kr) (by intro x;rfl) .is (.arr (l':=[(⟨ZaC (Nn l i).src (ZaX (ZH (Zeu (l.take i) mask)) (Nn l i).src),ZaC (Nn l i).dst (ZaX (ZaX (ZH (Zeu (l.take i) mask)) (Nn l i).src) (Nn l i).dst),(Nn l i).kind,0⟩:Zx)]) .t) (by simp only [Yd,Yl,Yy];omega) (by decide)) ⟨rfl,rfl,tv⟩ ⟨rfl,tv⟩ (qO rr qZ))))))))))))))) V [18,17,16,8,7,6,5,1] [103,102,101,50,0] (fun _=>rfl) (fun _=>rfl) fun τ a w F G=>?_
   try dsimp only [RS.sub,SF.sub,CF.sub,csub,Anc.sub,List.map,Zf,xL,xM,Nat.reduceAdd,xD,xE,xT,xU,xC,xN,zCF,ldSF,Zq,Zao,Zn] at G
   generalize τ 52=v52 at G
   refine Zi (Za (rZ G (qp r1 (qR rr qZ)) V [18,17,16,8,7,6,5,1] [103,102,101,50,0] fun G=>?_))
   rw [Zjt hil hBq] at G
   replace G:=G.ent (i:=18) (s':=.pv (.int .i64 ((i+1:Nat):Int))) rfl (.int (Zd ow))
   obtain ⟨F,G⟩:=G.nM [17,16,7,6,5,1,8,18] [101,0,50,102]
   exact ⟨((i+1),_,_),F,⟨by omega,(by rw [hq];have h9:=Zqf hil hBq;rw [Zjt hil hBq] at h9;exact h9)⟩,G,by omega⟩
  have hBq:kindOk mask (Nn l i)=false:=by unfold kindOk ofB;simpa using hc1
  refine Ye (Zi (Za (rZ G (qp r1 (qR rr qZ)) V [18,17,16,8,7,6,5,1] [103,102,101,50,0] fun G=>?_)))
  rw [← Zpa hil hBq] at G
  replace G:=G.ent (i:=18) (s':=.pv (.int .i64 ((i+1:Nat):Int))) rfl (.int (Zd ow))
  obtain ⟨F,G⟩:=G.nM [17,16,7,6,5,1,8,18] [101,0,50,102]
  exact ⟨((i+1),_,_),F,⟨by omega,(by rw [hq];unfold ZbE;rw [Zpa hil hBq])⟩,G,by omega⟩
 have hil:i=l.length:=by simp at hc0;omega
 rw [hil,YA] at hq G
 subst hq
 have hal2:(ZbE l mask).length≤l.length:=by have:=Zi1 l mask l.length;rwa [YA] at this
 obtain ⟨n,hne⟩:∃ n,(ZH (Zeu l mask)).length=n:=⟨_,rfl⟩
 have hn:n≤4096:=by omega
 refine Yw (Zj (Zj (Zo (Za (Ya (Ya ?_))))))
 obtain ⟨⟨es,ck⟩,G⟩:=G.open_ex 102 rfl
 obtain ⟨hk,G⟩:=G.open_and 102 rfl
 replace G:=G.turn 102 rfl (r':=.ob (.val v15) (ZoW .i64 (fun _=>True) (fun n:Int=>Value.int .i64 n) es ck)) (fun _ _ _ _ h=>h)
 dsimp only at hk
 obtain ⟨F,G⟩:=G.nM [19,18,17,16,8,7,6,5,1] [102,101,50,0]
 refine Ze G (qR rr (qf (Zfy 102 underlying160 .is (by rw [hk.len];omega)) r1 r1 (qf (ZaP .t qi) r1 qz qZ))) V [56,8,7,6,5] [102,101,50,0] rfl rfl fun a w F G=>?_
 rw [hk.len,hne] at G
 refine Za (Zc G rfl (fun hc2=>?_) (fun hc2=>?_))
 ·simp at hc2;omega
 refine Ye (Za (Ya (Zat 2 G kr (cG rfl (oM .t) r1 trivial (cG rfl (Zfy 102 underlying160 .is (by rw [hk.len];omega)) r1 r1 ChainN.nil)) kr (by rw [V];kernel_rfl) fun a w F G=>?_)))
 obtain ⟨F,G⟩:=G.nM [61,8,6,5] [102,101,50,0]
 try dsimp only [Zq,Zao,Zn] at G
 rw [hk.len,hne] at G
 replace G:=G.fresh 104 rfl
 refine ZaG G kr (cG rfl (Zar 104 (ZnS (n:Int)) func115 rfl kr (Args.one .t) PV.ptr_one) r1 r1 (cG rfl (oN .t) r1 trivial ChainN.nil)) kr (by rw [V];kernel_rfl) fun a w F G=>?_
 replace G:=G.sub
 obtain ⟨F,G⟩:=G.nM [11,8,6,5] [104,102,101,50,0]
 try dsimp only [RS.sub,SF.sub,CF.sub,csub,Anc.sub,List.map,Zq,Zao,Zn] at G
 generalize Act.tau a 62=v62 at G
 obtain ⟨_,_,_,ho⟩:=G.obGet 104 rfl
 obtain ⟨gb,rfl⟩:=ZlM ho
 clear ho
 replace G:=G.turn 104 rfl (r':=RS.hp (Znr (List.replicate (roomN (n:Int)) []) (List.replicate (roomN (n:Int)) []) 0 (.pointer (some ⟨gb,0,none⟩)))) (fun _ _ _ _ h=>h)
 obtain ⟨F,G⟩:=G.nM [11,8,6,5] [104,102,101,50,0]
 rw [ZjM hn] at G
 refine Za (Ya (Ya ?_))
 obtain ⟨F,G⟩:=G.give 50 8 rfl rfl
 obtain ⟨F,G⟩:=G.nM [11,8,6,5] [104,102,101,0]
 refine rZ G (qR rr (qu Ycj r1 (qJ qZ))) V [65,64,63,11,8,6,5] [104,102,101,0] fun G=>Yg ?_
 refine Zl (σ:=(Nat)×(List (List Z8))×(List (List Z8))×(Nat)) [5,6,8,11,63,64] [0,101,102] (fun s=>[(65,.pv (.int .i64 (s.1:Int)))]) (fun s=>[(104,RS.hp (Znr s.2.1 s.2.2.1 s.2.2.2 (.pointer (some ⟨gb,0,none⟩))))]) (fun s=>s.1≤(ZbE l mask).length∧(ZbN n (((ZbE l mask).take s.1).foldl (Zjm n) []) s.2.1 s.2.2.1∧s.2.2.2≤s.1)) (fun s=>(ZbE l mask).length - s.1) ((0),_,_,(0)) G ⟨rfl,rfl,rfl,rfl,rfl,rfl,rfl,tv⟩ ⟨rfl,rfl,rfl,rfl,tv⟩ ⟨Yx _,⟨ZbN.new n,YL 0⟩⟩ ?_
 clear G;intro s a w F hC G
 obtain ⟨i,O,I,m⟩:=s
 try dsimp only at hC
 obtain ⟨F,G⟩:=G.nM [65,64,63,11,8,6,5] [104,102,101,0]
 try dsimp only at G
 obtain ⟨hi,hq⟩:=hC
 obtain ⟨hD,hm⟩:=hq
 have hEl:=Zej (n:=n) ((ZbE l mask).take i) []
 rw [Yi,Yy] at hEl
 refine Ya (rZ G (qL r2) V [66,65,64,63,11,8,6,5] [104,102,101,0] fun G=>Ya ?_)
 refine Zc G rfl (fun hc3=>?_) (fun hc3=>?_)
 ·have hil:i<(ZbE l mask).length:=by simp at hc3;omega
  refine Ye (Za (Ya (Yg (Ya (Zb G (qy 4 Ycj r2 (qf (oR true 4 .t) r1 qz (qf (oH [.int .i64 0,.int .i64 0,.int .i64 0,.int .i64 0] 105) trivial qz (qS 4 105 r2 r1 qZ)))) V [65,64,63,13,11,8,6,5] [105,104,102,101,0] (fun _=>rfl) (fun _=>rfl) fun τ a w F G=>?_)))))
  try dsimp only [RS.sub,SF.sub,CF.sub,csub,Anc.sub,List.map,Zf,xL,xM,Nat.reduceAdd,xD,xE,xT,xU,xC,xN,zCF,ldSF,Zq,Zao,Zn] at G
  generalize τ 13=v13 at G
  try simp only [Yb] at G
  refine Za (Ze G (qR rr (qe 4 105 r1 r1 (qf (ZK 104 (Zpp gb O I m (Nn (ZbE l mask) i) (hD.on.r ow) (hD.inn.r ow) (by rw [hD.ol,hD.il]) (by rw [hD.ol];exact hn) ow) func116 rfl kr (Args.two .t (.pagg .t))) r2 r1 qZ))) V [65,64,63,11,8,6,5] [105,104,102,101,0] rfl rfl fun a w F G=>Zi (Za ?_))
  refine rZ G (qp r1 (qR rr qZ)) V [65,64,63,11,8,6,5] [105,104,102,101,0] fun G=>?_
  replace G:=G.ent (i:=65) (s':=.pv (.int .i64 ((i+1:Nat):Int))) rfl (.int (Zd ow))
  obtain ⟨F,G⟩:=G.nM [64,63,11,8,6,5,65] [102,101,0,104]
  exact ⟨((i+1),_,_,_),F,⟨by omega,⟨by rw [Zp hil,Yat];exact (hD.step hn _ m).1,Y1 (hD.step hn _ m).2 ow⟩⟩,G,by omega⟩
 have hil:i=(ZbE l mask).length:=by simp at hc3;omega
 rw [hil,YA] at hD
 obtain ⟨L,hL⟩:=Zs7 (adj:=adjO O 14) n fun u y hy=>((hD.adjR 14).1 u y hy).1
 have hElen:((ZbE l mask).foldl (Zjm n) []).length≤1000000:=by have:=Zej (n:=n) (ZbE l mask) [];rw [Yy] at this;omega
 have hfin:(ZbE l mask).any (fun x=>decide (Nn L x.src.toNat=Nn L x.dst.toNat) && ZgL must x.kind)=rb:=by
   rw [Yai,hr,Yaz,← ZqE (n:=n) hD hne.symm (fun x=>by rw [← hne];exact ZmJ x) hL]
   simp only [Yr,Yq]
   rfl
 refine Yw (Zj (Zj (Zo (Za (Ya ?_)))))
 obtain ⟨F,G⟩:=Sat.giveL (p:=Zez O I m) G 104 11 rfl rfl Ze8
 obtain ⟨F,G⟩:=G.nM [66,65,64,63,11,8,6,5] [102,101,0]
 refine Zb G (qR rr (qf (oP (ZqH n ((ZbE l mask).foldl (Zjm n) []) O I m 14 hD hn hElen L hL) func117 (Args.two .t qi)) r1 qz (qf (oH [.slice none 0 0] 106) trivial qz (qf (ZaZ 106 .same .t one_sl kr kr) r2 r1 qZ)))) V [14,8,6,5] [106,102,101,0] (fun _=>rfl) (fun _=>rfl) fun τ a w F G=>?_
 try dsimp only [RS.sub,SF.sub,CF.sub,csub,Anc.sub,List.map,Zf,xL,xM,Nat.reduceAdd,xD,xE,xT,xU,xC,xN,zCF,Zq,Zao,Zn] at G
 generalize τ 14=v14 at G
 obtain ⟨F,G⟩:=G.giveRef 106 14 rfl rfl rfl
 obtain ⟨F,G⟩:=G.nM [14,8,6,5] [102,101,0]
 try dsimp only [Go.Gm.unCF] at G
 obtain ⟨F,G⟩:=G.giveRef 101 5 rfl rfl rfl
 obtain ⟨F,G⟩:=G.nM [14,8,6,5] [102,0]
 try dsimp only [Go.Gm.unCF] at G
 refine Za (Ya (rZ G (qR rr (qf (ZaT (Args.two .t .t)) r2 qz (qf (oP (Zuo (ZbE l mask) (fun x=>decide (Nn L x.src.toNat=Nn L x.dst.toNat) && ZgL must x.kind) 119 f119 [.ref [.sl Zn L],.ref [.int .i64 must]] func119 rfl kr (fun x hx=>Zr1 x L must (by rw [hL.1,← hne];exact (Zk9 hx).1) (by rw [hL.1,← hne];exact (Zk9 hx).2))) func118 (Args.two .t .t)) r2 qz (qO rr qZ)))) V [6] [102,0] fun G=>Yh ?_))
 refine Zs hfr G rfl rfl rfl (.bool hfin)
end Go.Proofs.YtlkpllemoepamaaGreat
namespace Go.Proofs.YtlkpllemoepamaaGreat
open Go Go.Gm Tryz
set_option linter.unusedVariables false
set_option linter.unusedSimpArgs false
set_option maxHeartbeats 4000000
set_option maxRecDepth 8000
open Go.RowKit Go.Maps Go.Sort Go.Shelf Go.ChangeMaps Go.MapKept
section
variable {F:Fence} {n:Nat} {P:Program} {ops:Array Oper} {rest:List Oper} {o:Oper} {a:Act} {w:World} {Q:Exit→Act→World→Prop}
theorem Zd1 (hg:o.guard=none) (m:Operand) (t:TypeId) (hop:o.op=Op.range t m) (k e:TypeId) (ht:P.underlying t=some (.map k e)) (b:Nat) (es:Array MapEntry) (clock:Nat) (hm:a.eval m = .map (some b)) (hb:w.heap[b]? = some (.map es clock))
  (hK:wpListIn F n P ops Q rest (a.put o.dst (.pointer (some ⟨w.heap.size,0,none⟩))) (w.alloc (.mapIter (some b) clock #[] clock))):wpListIn F n P ops Q (o :: rest) a w:=by
 refine wpListIn_plain hg fun K' hK'=>?_
 unfold Oper.wpIn
 refine ⟨by simp [Oper.about,hop],?_⟩
 rw [Oper.semAt_plain F _ _ (by rw [hop];intro c hc';cases hc')]
 simp [execOp,hop,hm,run_range_map w t k e b es clock ht hb,Result.andThen]
 exact hK' _ _ hK
end
theorem Zp2 {w w1:World} {r b:Nat} {clock c0:Nat} {seen:Array Nat} {es:Array MapEntry} {x:Nat} (hal:w1=w∨w1=w.drew) (hr:w.heap[r]? = some (.mapIter (some b) clock seen c0)) (hb:w.heap[b]? = some (.map es clock)) (hne:r≠b) :
  (setBlock w1 r (.mapIter (some b) clock (seen.push x) clock)).heap[r]? = some (.mapIter (some b) clock (seen.push x) clock)∧(setBlock w1 r (.mapIter (some b) clock (seen.push x) clock)).heap[b]? = some (.map es clock)∧w.grownBy (setBlock w1 r (.mapIter (some b) clock (seen.push x) clock)) (some r):=by
 have hr1:w1.heap[r]? = some (.mapIter (some b) clock seen c0):=by rcases hal with rfl | rfl <;> exact hr
 have hb1:w1.heap[b]? = some (.map es clock):=by rcases hal with rfl | rfl <;> exact hb
 have hset:=heap_set (o':=.mapIter (some b) clock (seen.push x) clock) hr1
 refine ⟨hset.1,(hset.2 b (fun e1=>hne e1.symm)).trans hb1,?_⟩
 rcases hal with rfl | rfl <;> exact ⟨rfl,rfl,rfl,by simp [setBlock],fun i _ hi=>hset.2 i (fun e1=>hi (by rw [e1]))⟩
def Zst (es:Array MapEntry) (seen:Array Nat):Prop:=(leftOf es seen).size=0
structure ZrY (P:Program) (w w2:World) (r b clock:Nat) (seen:Array Nat) (es:Array MapEntry) (e:MapEntry):Prop where
 left:e ∈ (leftOf es seen).toList
 it:w2.heap[r]? = some (.mapIter (some b) clock (seen.push e.born) clock)
 mp:w2.heap[b]? = some (.map es clock)
 grown:w.grownBy w2 (some r)
 entry:(Instr.entry (.pointer (some ⟨r,0,none⟩))).run P w2 = .ok (.tuple #[e.key,e.val]) w2
section
variable {F:Fence} {n:Nat} {P:Program} {ops:Array Oper} {rest:List Oper} {o:Oper} {a:Act} {w:World} {Q:Exit→Act→World→Prop}
theorem ZeC (hg:o.guard=none) (it:Operand) (hop:o.op=Op.next it false) (r b clock c0:Nat) (seen:Array Nat) (es:Array MapEntry) (hit:a.eval it = .pointer (some ⟨r,0,none⟩))
  (hr:w.heap[r]? = some (.mapIter (some b) clock seen c0)) (hb:w.heap[b]? = some (.map es clock)) (hold:∀ x ∈ es.toList,x.born<clock) (hsc:clock≤c0) (hne:r≠b) (hnd:(es.toList.map (·.born)).Nodup)
  (hDone:Zst es seen→wpListIn F n P ops Q rest (a.put o.dst (.tuple #[.bool false])) w)
  (hMore:∀ (e:MapEntry) (w2:World),ZrY P w w2 r b clock seen es e→wpListIn F n P ops Q rest (a.put o.dst (.tuple #[.bool true,e.key,e.val])) w2) :
  wpListIn F n P ops Q (o :: rest) a w:=by
 refine wpListIn_plain hg fun K' hK'=>?_
 unfold Oper.wpIn
 refine ⟨by simp [Oper.about,hop],?_⟩
 rw [Oper.semAt_plain F _ _ (by rw [hop];intro c hc';cases hc')]
 rcases run_next_at (P:=P) w o.type r b clock c0 seen es clock hr hb hold hsc with ⟨h0,hrun⟩ | ⟨e,he,w1,hal,hrun⟩
 ·simp [execOp,hop,hit,hrun,Result.andThen]
  exact hK' _ _ (hDone h0)
 ·simp [execOp,hop,hit,hrun,Result.andThen]
  obtain ⟨h1,h2,h3⟩:=Zp2 (x:=e.born) hal hr hb hne
  exact hK' _ _ (hMore e _ ⟨he,h1,h2,h3,run_entry_at _ r b clock seen es clock e h1 h2 (mem_left he).1 hnd⟩)
end
theorem Zjy:∀ {es:List MapEntry} {seen:Array Nat} {e:MapEntry},(es.map (·.born)).Nodup→e ∈ es→seen.contains e.born=false→(es.filter fun x=>(seen.push e.born).contains x.born).Perm (e :: es.filter fun x=>seen.contains x.born)
 | [],_,_,_,h,_=>by cases h
 | x :: es,seen,e,hn,hm,hs=>by
  rw [YS,Ybi] at hn
  rcases Yj.1 hm with rfl | hm
  ·have hrest:(es.filter fun x=>(seen.push e.born).contains x.born)=es.filter fun x=>seen.contains x.born:=List.filter_congr fun y hy=>by
    rw [contains_push]
    have:(y.born == e.born)=false:=by
     simp
     intro h9
     exact hn.1 (h9 ▸ Yv.2 ⟨y,hy,rfl⟩)
    rw [this,Bool.or_false]
   rw [Yar (by rw [contains_push];simp),hrest,Yas (by rw [hs];simp)]
  ·have ih:=Zjy hn.2 hm hs
   have hx:(x.born == e.born)=false:=by
    simp
    intro h9
    exact hn.1 (h9 ▸ Yv.2 ⟨e,hm,rfl⟩)
   have hc:(seen.push e.born).contains x.born=seen.contains x.born:=by rw [contains_push,hx,Bool.or_false]
   cases hsx:seen.contains x.born with
   | true=>
    rw [Yar (by rw [hc,hsx]),Yar (by rw [hsx])]
    exact (ih.cons x).trans (List.Perm.swap e x _)
   | false=>
    rw [Yas (by rw [hc,hsx];simp),Yas (by rw [hsx];simp)]
    exact ih
theorem Zrk {es:Array MapEntry} {seen:Array Nat} (h:(leftOf es seen).size=0):(es.toList.filter fun x=>seen.contains x.born)=es.toList:=Ybk.2 fun x hx=>all_seen es seen h x hx
theorem Zoz {es:List MapEntry} : (es.filter fun x=>(#[]:Array Nat).contains x.born) = []:=by
 rw [YbL];simp
theorem Zpc {es:Array MapEntry} : (leftOf es #[]).size=es.size:=by simp [leftOf]
end Go.Proofs.YtlkpllemoepamaaGreat
namespace Go.Proofs.YtlkpllemoepamaaGreat
open Go Go.Gm Tryz
set_option linter.unusedVariables false
set_option linter.unusedSimpArgs false
set_option maxHeartbeats 4000000
set_option maxRecDepth 8000
open Go.RowKit Go.Maps Go.Sort Go.Shelf Go.ChangeMaps Go.MapKept
def Zr9 (x:Zg):List Value:=[Value.int .i64 x.src,.int .i64 x.dst,.int .i64 x.kind,.int .i64 x.key]
def Zme (x:Zg):Value:=(.agg #[.int .i64 x.src,.int .i64 x.dst,.int .i64 x.kind,.int .i64 x.key])
def Zwg (v:Value):Zg:=match v with
 | .agg z=>match z.toList with
  | [.int _ b,.int _ c,.int _ d,.int _ e]=>⟨b,c,d,e⟩
  | _=>noE
 | _=>noE
theorem Zsp (x:Zg):Zwg (Zme x)=x:=rfl
theorem ZqI (x:Zg):∀ u ∈ [Value.int .i64 x.src,.int .i64 x.dst,.int .i64 x.kind,.int .i64 x.key],u.oneCell' = true:=by
 intro u hu
 simp at hu
 rcases hu with rfl | rfl | rfl | rfl <;> rfl
theorem ZpB {w:World} {y:Ys} : ∀ {l:List Zg},(∀ e ∈ l,∀ x ∈ Zas e,inR .i64 x)→PVs (l.flatMap Zq) (l.flatMap Zr9) w y
 | [],_=>trivial
 | e :: l,h=>by
  have h1:=h e (by simp)
  unfold Zas at h1
  exact ⟨⟨rfl,rfl,h1 _ (by simp)⟩,⟨rfl,rfl,h1 _ (by simp)⟩,⟨rfl,rfl,h1 _ (by simp)⟩,⟨rfl,rfl,h1 _ (by simp)⟩,ZpB fun z hz=>h z (by simp [hz])⟩
set_option maxRecDepth 100000 in
set_option maxHeartbeats 1000000 in
theorem ZtD (F:Fence) (n:Nat) (h10:F.fn 177) (hro:F.round=none) (hn:1≤n) (l Bm off b clock:Nat) (es:Array MapEntry) (hnd:(es.toList.map (·.born)).Nodup) (hold:∀ x ∈ es.toList,x.born<clock) (hkv:∀ e ∈ es.toList,∃ k:Zg,e.key=Zme k) (J:List Zg→World→Prop)
  (hY:∀ pre x W,J pre W→pre.length<es.size→YieldAt F (n - 1) prog l #[Zme x] W fun e W'=>e = .returned (.bool true)∧J (pre ++ [x]) W' ∧ KeepsWalks W W')
  (W:World) (hJ:AbidesFrom W.heap.size J) (hm:W.cell? ⟨Bm,off,none⟩ = some (.map (some b))) (hb:W.heap[b]? = some (.map es clock)) (h0:J [] W) :
  CallsIn F n prog 177 #[.func (.yield l) #[] #[],.pointer (some ⟨Bm,off,none⟩)] W fun e W'=>(∃ v,e = .returned v) ∧ ∃ ss:List Zg,(ss.map Zme).Perm (es.toList.map (·.key))∧J ss W':=by
 have hbl:b<W.heap.size:=(YW.1 hb).1
 refine callsIn_of_wp func177 rfl h10 ?_ hro
 simp only [ntmps177,YaJ,Yl,Yy,Nat.reduceAdd,Nat.reduceSub,Array.replicate_succ,Array.replicate_zero,List.push_toArray,List.append_toArray,Yav,Yah]
 gi_wp2_with (first
  | (gi_at_range;refine Zd1 rfl _ 127 rfl 42 3 kr b es clock rfl hb ?_)
  | gi_in)
 go_frame
 have hg0:W.grownBy (W.alloc (.mapIter (some b) clock #[] clock)) none:=World.grownBy_alloc W _ none
 have hr0:(W.alloc (.mapIter (some b) clock #[] clock)).heap[W.heap.size]? = some (.mapIter (some b) clock #[] clock):=World.alloc_heap_new W _
 have hb0:(W.alloc (.mapIter (some b) clock #[] clock)).heap[b]? = some (.map es clock):=(Below.heap_alloc _ _ b hbl).trans hb
 generalize W.alloc (.mapIter (some b) clock #[] clock)=w0 at hg0 hr0 hb0 ⊢
 gi_loopw [3] (fun _ wr=>∃ (seen:Array Nat) (c0:Nat) (ss:List Zg),wr.heap[W.heap.size]? = some (.mapIter (some b) clock seen c0)∧clock≤c0∧wr.heap[b]? = some (.map es clock)∧(ss.map Zme).Perm ((es.toList.filter fun x=>seen.contains x.born).map (·.key))∧ss.length+(leftOf es seen).size≤es.size∧J ss wr)
  (fun _ wr=>(leftOf es (wr.iterSeen W.heap.size)).size)
 case atStart=>
  exact ⟨#[],clock,[],hr0,YL _,hb0,by rw [Zoz];exact .nil,by rw [Zpc];simp,hJ [] W w0 none h0 hg0 (fun r e=>by cases e)⟩
 case round=>
  obtain ⟨seen,c0,ss,hr,hsc,hbr,hp,hcs,hJs⟩:=hrel
  gi_wp2_with (first
   | (gi_at_next;refine ZeC rfl _ rfl W.heap.size b clock c0 seen es rfl hr hbr hold hsc ow hnd ?_ ?_)
   | gi_in)
  ·intro hl0
   gi_wp2
   go_end0
   exact ⟨⟨_,rfl⟩,ss,by rw [Zrk hl0] at hp;exact hp,hJs⟩
  ·intro e w2 hN
   obtain ⟨hem,hes⟩:=mem_left hN.left
   obtain ⟨x,hx⟩:=hkv e hem
   have hr2:=hN.it
   have hb2:=hN.mp
   have hen:=hN.entry
   have hlt:=left_shrinks es seen e hN.left
   have hJ2:J ss w2:=hJ ss wr w2 (some W.heap.size) hJs hN.grown (fun r e9=>by cases e9;exact ⟨YL _,_,hr,rfl⟩)
   rw [hx,show Zme x=(.agg #[.int .i64 x.src,.int .i64 x.dst,.int .i64 x.kind,.int .i64 x.key]) from rfl] at hen
   have hJ3:J ss (w2.alloc (.cells #[.int .i64 x.src,.int .i64 x.dst,.int .i64 x.kind,.int .i64 x.key] 42)):=hJ ss w2 _ none hJ2 (World.grownBy_alloc w2 _ none) (fun r e9=>by cases e9)
   have hr2b:(w2.alloc (.cells #[.int .i64 x.src,.int .i64 x.dst,.int .i64 x.kind,.int .i64 x.key] 42)).heap[W.heap.size]? = _:=(Below.heap_alloc _ _ _ (YW.1 hr2).1).trans hr2
   have hb2b:(w2.alloc (.cells #[.int .i64 x.src,.int .i64 x.dst,.int .i64 x.kind,.int .i64 x.key] 42)).heap[b]? = _:=(Below.heap_alloc _ _ _ (YW.1 hb2).1).trans hb2
   obtain ⟨fn,tmps,assign,body,hy,hR⟩:=hY ss x _ hJ3 ow
   rw [show Zme x=(.agg #[.int .i64 x.src,.int .i64 x.dst,.int .i64 x.kind,.int .i64 x.key]) from rfl] at hy
   rw [hx,show Zme x=(.agg #[.int .i64 x.src,.int .i64 x.dst,.int .i64 x.kind,.int .i64 x.key]) from rfl]
   clear hN
   gi_wp2
   refine hR.mono ?_
   rintro e9 W3 ⟨rfl,hJ4,hk3⟩
   gi_wp2
   have hr3:=hk3.same _ _ hr2b rfl
   have hb3:=hk3.same _ _ hb2b rfl
   go_roundw
   case rel=>
    exact ⟨seen.push e.born,clock,ss ++ [x],hr3,YL _,hb3,by
     rw [YQ,List.map_singleton]
     have h9:=((Zjy hnd hem hes).map (·.key)).symm
     rw [YS,hx] at h9
     exact ((List.perm_append_singleton _ _).trans (hp.cons _)).trans h9,by rw [Yd,YM];omega,hJ4⟩
   case measure=>
    simp only [World.iterSeen,hr3,hr]
    exact hlt
end Go.Proofs.YtlkpllemoepamaaGreat
namespace Go.Proofs.YtlkpllemoepamaaGreat
open Go Go.Gm Tryz
set_option linter.unusedVariables false
set_option linter.unusedSimpArgs false
set_option maxHeartbeats 4000000
set_option maxRecDepth 8000
open Go.RowKit Go.Maps Go.Sort Go.Shelf Go.ChangeMaps Go.MapKept
theorem ZnM (w:World) (l:List Value) (t:TypeId):∀ j u,l[j]? = some u→(w.alloc (.cells l.toArray t)).cell? ((⟨w.heap.size,0,none⟩:Addr).add j)=some u:=by
 intro j u hj
 rw [show (⟨w.heap.size,0,none⟩:Addr).add j = ⟨w.heap.size,j,none⟩ from by cases j <;> simp [Addr.add]]
 rw [ZY (vs:=l.toArray) (T:=t) (fr:=(0,0)) (World.alloc_heap_new w _)]
 simpa using hj
def Zen : Code := (Code.region 2 #[{ dst := some 5, op := Op.alloc 42, type := 0, pos := "iter.go:51", after := #[], guard := none }, { dst := none, op := Op.store 42 (Operand.tmp 5) (Operand.tmp 7), type := 0, pos := "iter.go:51", after := #[{ on := 0, ground := Ground.data }, { on := 0, ground := Ground.phase }], guard := none }] false)
def Zh0 : Code := (Code.block 1 (Code.region 3 #[{ dst := some 8, op := Op.load 31 (Operand.tmp 2), type := 31, pos := "iter.go:52", after := #[], guard := none }, { dst := some 9, op := Op.load 42 (Operand.tmp 5), type := 42, pos := "iter.go:52", after := #[], guard := none }, { dst := some 10, op := Op.buildSlice 31 1 #[(0, Operand.tmp 9)], type := 31, pos := "iter.go:52", after := #[{ on := 1, ground := Ground.data }], guard := none }, { dst := some 11, op := Op.call { callee := Callee.builtin Builtin.append, args := #[Operand.tmp 8, Operand.tmp 10], argTypes := #[31, 31] }, type := 31, pos := "iter.go:52", after := #[{ on := 0, ground := Ground.data }, { on := 2, ground := Ground.data }], guard := none }, { dst := none, op := Op.store 31 (Operand.tmp 2) (Operand.tmp 11), type := 0, pos := "iter.go:52", after := #[{ on := 3, ground := Ground.data }, { on := 3, ground := Ground.chain }, { on := 0, ground := Ground.phase }, { on := 1, ground := Ground.phase }, { on := 2, ground := Ground.phase }, { on := 3, ground := Ground.phase }], guard := none }] false))
def kcApRec (fn:FuncId) (sv:Value) (Bs D:Nat) (st:LoopState) (pend:Option Code):Loop:=
 { state:=st,pending:=pend,fn,tmps:=#[.slice none 0 0,sv,.pointer (some ⟨Bs,0,none⟩),undef,.slice none 0 0,undef,sv,undef,undef,undef,undef,undef,undef],params:=#[7],assign:=Zen,body:=Zh0,defers:=D }
structure Zhi (w0:World) (fn:FuncId) (sv:Value) (Bs l D:Nat) (ss:List Zg) (W:World):Prop where
 box:∃ v,W.heap[Bs]? = some (.cells #[v] 31 (0,0))∧W.ownsRow w0.heap.size 42 4 v ss.length (ss.flatMap Zr9)∧(v = .slice none 0 0 ↔ ss = [])
 L:W.heap[l]? = some (.loop (kcApRec fn sv Bs D .ready none))
 K:W.heap[D]? = some (.deferred (some []))
 below:Below w0.heap.size w0 W
theorem Zgv (w0:World) (fn:FuncId) (sv:Value) (Bs l D B:Nat) (V:w0.heap.size≤B):AbidesFrom B (Zhi w0 fn sv Bs l D):=fun s W W' row h hg hrow=>by
 have hrow':∀ r,row=some r → ∃ o:Obj,W.heap[r]? = some o∧o.isWalk=true:=fun r e=>(hrow r e).2
 obtain ⟨v,hv,hr,hn⟩:=h.box
 exact ⟨⟨v,(grownBy_keeps hg hrow' hv rfl).trans hv,ownsRow_abides_a hr hg hrow',hn⟩,(grownBy_keeps hg hrow' h.L rfl).trans h.L,(grownBy_keeps hg hrow' h.K rfl).trans h.K,
  h.below.grown hg h.below.size (fun k e=>Y1 V (hrow k e).1)⟩
set_option maxRecDepth 100000 in
set_option maxHeartbeats 2000000 in
theorem ZoH (F:Fence) (m:Nat) (w0:World) (fn:FuncId) (hfn:F.fn fn) (sv:Value) (Bs l D:Nat) (hBl:Bs≠l) (hDl:D≠l) (hDB:D≠Bs) (h0B:w0.heap.size≤Bs) (h0l:w0.heap.size≤l)
   (N:Nat) (hN:N≤maxLen) (hNb:N*32≤140737488355328) (ss:List Zg) (x:Zg) (W:World) (h:Zhi w0 fn sv Bs l D ss W) (hlen:ss.length<N) :
   YieldAt F m prog l #[(.agg #[.int .i64 x.src,.int .i64 x.dst,.int .i64 x.kind,.int .i64 x.key])] W fun e W'=>e = .returned (.bool true)∧Zhi w0 fn sv Bs l D (ss ++ [x]) W' ∧ KeepsWalks W W':=by
 have hne:31≠42:=by decide
 obtain ⟨i0,hi,hz0,hz1,hz2⟩:=info_parts (show (prog.info? 42).map (fun i=>(i.zero,i.size,i.bytes))=some (some (.agg #[.int .i64 0,.int .i64 0,.int .i64 0,.int .i64 0]),4,32) from by kernel_rfl)
 obtain ⟨v,hv,hrow,_⟩:=h.box
 refine ⟨fn,#[.slice none 0 0,sv,.pointer (some ⟨Bs,0,none⟩),undef,.slice none 0 0,undef,sv,(.agg #[.int .i64 x.src,.int .i64 x.dst,.int .i64 x.kind,.int .i64 x.key]),undef,undef,undef,undef,undef],Zen,Zh0,by simpa [kcApRec] using run_yield (P:=prog) (args:=#[(.agg #[.int .i64 x.src,.int .i64 x.dst,.int .i64 x.kind,.int .i64 x.key])]) h.L rfl,roundIn_of_wpIn hfn ?_⟩
 have hb9:Zhi w0 fn sv Bs l D ss (W.alloc (.cells #[.int .i64 x.src,.int .i64 x.dst,.int .i64 x.kind,.int .i64 x.key] 42)):=Zgv w0 fn sv Bs l D w0.heap.size (YL _) ss W _ none h (World.grownBy_alloc W _ none) (fun r e=>by cases e)
 obtain ⟨v,hv,hrow,_⟩:=hb9.box
 have hl:l<(W.alloc (.cells #[.int .i64 x.src,.int .i64 x.dst,.int .i64 x.kind,.int .i64 x.key] 42)).heap.size:=(YW.1 hb9.L).1
 have hbr:=run_beginRound (P:=prog) hb9.L rfl
 obtain ⟨W2,hW2⟩:∃ W2,(W.alloc (.cells #[.int .i64 x.src,.int .i64 x.dst,.int .i64 x.kind,.int .i64 x.key] 42)).putObj l (.loop { kcApRec fn sv Bs D .ready none with state:=.busy })=W2:=⟨_,rfl⟩
 rw [hW2] at hbr
 have hg2:(W.alloc (.cells #[.int .i64 x.src,.int .i64 x.dst,.int .i64 x.kind,.int .i64 x.key] 42)).grownBy W2 (some l):=by rw [← hW2];exact grownBy_putObj_a _ _ _
 have hk2:KeepsWalks (W.alloc (.cells #[.int .i64 x.src,.int .i64 x.dst,.int .i64 x.kind,.int .i64 x.key] 42)) W2:=by rw [← hW2];exact KeepsWalks.putObj _ hb9.L rfl
 have hv2:W2.heap[Bs]? = some (.cells #[v] 31 (0,0)):=by rw [← hW2];exact (World.putObj_heap_other hBl).trans hv
 have hK2:W2.heap[D]? = some (.deferred (some [])):=by rw [← hW2];exact (World.putObj_heap_other hDl).trans hb9.K
 have hL2:W2.heap[l]? = some (.loop { kcApRec fn sv Bs D .ready none with state:=.busy }):=by rw [← hW2];exact World.putObj_heap_same hl
 have hrow2:W2.ownsRow w0.heap.size 42 4 v ss.length (ss.flatMap Zr9):=hrow.kept hg2 (ownsRow_ne_a hrow hb9.L (fun cur e=>by first | cases e | exact hne (YbK e).2.1))
 have hb2:Below w0.heap.size w0 W2:=hb9.below.grown hg2 hb9.below.size (fun k e=>by cases e;exact h0l)
 obtain ⟨hc2,hf2⟩:=cell_of_box_a hv2
 have hBlt:Bs<W2.heap.size:=(YW.1 hv2).1
 have hl2:l<W2.heap.size:=(YW.1 hL2).1
 have hDlt:D<W2.heap.size:=(YW.1 hK2).1
 have ne_of:∀ {j:Nat} {o:Obj},W2.heap[j]? = some o→(∀ cur,o ≠ .cells cur 42 (0,0))→some j≠v.ownBlock:=fun hj hno=>by
   rcases ownsRow_ne_a hrow2 hj hno with e | e
   · rw [e];simp
   · exact fun e'=>e e'.symm
 have hx2:W2.heap[W.heap.size]? = some (.cells #[.int .i64 x.src,.int .i64 x.dst,.int .i64 x.kind,.int .i64 x.key] 42 (0,0)):=by rw [← hW2];exact (World.putObj_heap_other (by have:=(YW.1 h.L).1;omega)).trans (World.alloc_heap_new W _)
 have cb0:W2.cell? ⟨W.heap.size,0,none⟩ = some _:=(ZY hx2 _).trans rfl
 have cb1:W2.cell? ⟨W.heap.size,1,none⟩ = some _:=(ZY hx2 _).trans rfl
 have cb2:W2.cell? ⟨W.heap.size,2,none⟩ = some _:=(ZY hx2 _).trans rfl
 have cb3:W2.cell? ⟨W.heap.size,3,none⟩ = some _:=(ZY hx2 _).trans rfl
 clear hW2
 unfold Zen
 gi_wp2_with gi_round_op_a
 unfold Zh0
 gi_wp2_with (first
   | (gi_at_builtin;refine wpListIn_append_own _ rfl _ _ 31 rfl w0.heap.size 42 i0 (.agg #[.int .i64 0,.int .i64 0,.int .i64 0,.int .i64 0]) 4 32 Yce hi hz0 hz1 hz2 rfl (by decide) _ _ _ rfl (hrow2.alloc _) ⟨W2.heap.size,0,none⟩ 1 1 ([.int .i64 x.src,.int .i64 x.dst,.int .i64 x.kind,.int .i64 x.key]) rfl rfl (ZnM _ _ _) (ZqI x) ow ow (by have:=hb2.size;simp;omega) ?_;intro v' w3 hown' hg3 hnil3
      have hv3:w3.heap[Bs]? = some (.cells #[v] 31 (0,0)):=(hg3.block Bs (by simp;omega) (ne_of hv2 (fun cur e=>by first | cases e | exact hne (YbK e).2.1))).trans ((Below.heap_alloc _ _ Bs hBlt).trans hv2)
      obtain ⟨hc3,hf3⟩:=cell_of_box_a hv3
      obtain ⟨g',cap',cur',rfl,hbase',hgb',hr1,hr2,hr3,hr4⟩:∃ g' cap' cur',v' = .slice (some ⟨g',0,none⟩) (ss.length+1) cap' ∧ w0.heap.size≤g' ∧ w3.heap[g']? = some (.cells cur' 42 (0,0))∧ss.length+1≤cap' ∧ cap' ≤ maxLen∧cur'.size=cap' * 4∧cur'.toList.take ((ss.length+1)*4)=ss.flatMap Zr9 ++ [.int .i64 x.src,.int .i64 x.dst,.int .i64 x.kind,.int .i64 x.key]:=by
        rcases hown'.2 with ⟨_,h0⟩ | h'
        · exact absurd h0 ow
        · exact h'
      go_frame)
   | gi_round_op_a)
 have hg3':(W2.alloc (.cells ([.int .i64 x.src,.int .i64 x.dst,.int .i64 x.kind,.int .i64 x.key]).toArray 42)).grownBy w3 v.ownBlock:=hg3
 have hL3:w3.heap[l]? = some (.loop { kcApRec fn sv Bs D .ready none with state:=.busy }):=(hg3'.block l (by simp;omega) (ne_of hL2 (fun cur e=>by first | cases e | exact hne (YbK e).2.1))).trans ((Below.heap_alloc _ _ l hl2).trans hL2)
 have hK3:w3.heap[D]? = some (.deferred (some [])):=(hg3'.block D (by simp;omega) (ne_of hK2 (fun cur e=>by first | cases e | exact hne (YbK e).2.1))).trans ((Below.heap_alloc _ _ D hDlt).trans hK2)
 obtain ⟨w4,hw4⟩:∃ w4,w3.setCell ⟨Bs,0,none⟩ (.slice (some ⟨g',0,none⟩) (ss.length+1) cap')=w4:=⟨_,rfl⟩
 rw [hw4]
 have hg4:w3.grownBy w4 (some Bs):=by rw [← hw4];exact grownBy_setCell0_a _ _ _
 have hv4:w4.heap[Bs]? = some (.cells #[.slice (some ⟨g',0,none⟩) (ss.length+1) cap'] 31 (0,0)):=by rw [← hw4];exact heap_setCell_box_a _ hv3
 have hL4:w4.heap[l]? = some (.loop { kcApRec fn sv Bs D .ready none with state:=.busy }):=(hg4.block l (YW.1 hL3).1 (fun e=>hBl (by cases e;rfl))).trans hL3
 have hK4:w4.heap[D]? = some (.deferred (some [])):=(hg4.block D (YW.1 hK3).1 (fun e=>hDB (by cases e;rfl))).trans hK3
 have hrow4:=hown'.kept hg4 (ownsRow_ne_a hown' hv3 (fun cur e=>by first | cases e | exact hne (YbK e).2.1))
 have hl4:l<w4.heap.size:=(YW.1 hL4).1
 have hb3:Below w0.heap.size w0 w3:=(hb2.alloc hb2.size _).grown hg3' (by have:=hb2.size;simp;omega) (fun k e=>(hrow2.lt k e).1)
 have hb4:Below w0.heap.size w0 w4:=hb3.grown hg4 hb3.size (fun k e=>by cases e;exact h0B)
 have hk4:KeepsWalks (W.alloc (.cells #[.int .i64 x.src,.int .i64 x.dst,.int .i64 x.kind,.int .i64 x.key] 42)) w4:=((hk2.trans (KeepsWalks.alloc _ _)).trans (KeepsWalks.of_grownBy hg3' (ownsRow_not_walk_a (hrow2.alloc _)))).trans (by rw [← hw4];exact KeepsWalks.setCell _ _ _)
 clear hw4
 refine ⟨_,_,run_endRound none hL4,rfl,⟨⟨_,(World.putObj_heap_other hBl).trans hv4,?_,by simp⟩,World.putObj_heap_same hl4,(World.putObj_heap_other hDl).trans hK4,hb4.grown (grownBy_putObj_a _ _ _) hb4.size (fun k e=>by cases e;exact h0l)⟩,((KeepsWalks.alloc _ _).trans hk4).trans (KeepsWalks.putObj _ hL4 rfl)⟩
 have:=hrow4.kept (grownBy_putObj_a w4 l (.loop { { kcApRec fn sv Bs D .ready none with state:=.busy } with state:=if (none:Option Code).isNone then .ready else .done,pending:=none })) (ownsRow_ne_a hrow4 hL4 (fun cur e=>by first | cases e | exact hne (YbK e).2.1))
 rw [YU,show [x].flatMap Zr9 = [.int .i64 x.src,.int .i64 x.dst,.int .i64 x.kind,.int .i64 x.key] from rfl,Yd]
 simpa using this
set_option maxRecDepth 100000 in
set_option maxHeartbeats 2000000 in
theorem ZgE (F:Fence) (n:Nat) (h11:F.fn 176) (hro:F.round=none) (hn:2≤n) (g:Nat) (lb:Array Value) (hFg:F.fn g) (eg:∀ args w,(callFunc g args).run prog w = .ok (.enter g args) w)
  (S:List Zg→Prop) (N:Nat) (hN:N≤maxLen) (hNb:N*32≤140737488355328) (w:World) (hseq:SeqGives F (n - 1) prog g lb Zme S N w) :
  CallsIn F n prog 176 #[.slice none 0 0,.func (.func g) #[] lb] w fun e w'=>∃ (v:Value) (ss:List Zg),e = .returned v∧S ss∧w'.ownsRow w.heap.size 42 4 v ss.length (ss.flatMap Zr9)∧(v = .slice none 0 0 ↔ ss = [])∧Below w.heap.size w w':=by
 have h1:1≤n:=by omega
 have hne:31≠42:=by decide
 refine callsIn_of_wp_marks func176 rfl h11 ?_ hro
 simp only [ntmps176,YaJ,Yl,Yy,Nat.reduceAdd,Nat.reduceSub,Array.replicate_succ,Array.replicate_zero,List.push_toArray,List.append_toArray,Yav,Yah]
 gi_wp2
 refine wpIn_rangeFunc ?_
 intro fn hfn
 rw [hro]
 obtain ⟨W0,hW0⟩:∃ W0,w.alloc (.cells #[.slice none 0 0] 31)=W0:=⟨_,rfl⟩
 have hs0:W0.heap.size=w.heap.size+1:=by rw [← hW0];simp
 have hv0:W0.heap[w.heap.size]? = some (.cells #[.slice none 0 0] 31 (0,0)):=by rw [← hW0];exact World.alloc_heap_new w _
 have hb0:Below w.heap.size w W0:=by rw [← hW0];exact (Below.refl _ w).alloc (YL _) _
 rw [hW0]
 obtain ⟨W1,hW1⟩:∃ W1,(W0.alloc (.deferred (some []))).alloc (.loop (kcApRec fn (.func (.func g) #[] lb) w.heap.size W0.heap.size .ready none))=W1:=⟨_,rfl⟩
 have hold:∀ k,k<W0.heap.size→W1.heap[k]? = W0.heap[k]?:=fun k hk=>by
  rw [← hW1];exact (Below.heap_alloc _ _ k (by simp;omega)).trans (Below.heap_alloc _ _ k hk)
 have hb1:Below w.heap.size w W1:=by rw [← hW1];exact (hb0.alloc hb0.size _).alloc (by have:=hb0.size;simp;omega) _
 have hs1:W1.heap.size=W0.heap.size+2:=by rw [← hW1];simp
 have hM:Zhi w fn (.func (.func g) #[] lb) w.heap.size (W0.heap.size+1) W0.heap.size [] W1:=
  ⟨⟨_,(hold w.heap.size ow).trans hv0,⟨rfl,.inl ⟨rfl,rfl⟩⟩,by simp⟩,
   by rw [← hW1];have:=World.alloc_heap_new (W0.alloc (.deferred (some []))) (.loop (kcApRec fn (.func (.func g) #[] lb) w.heap.size W0.heap.size .ready none));rwa [World.size_alloc] at this,
   by rw [← hW1];exact (Below.heap_alloc _ _ _ (by simp)).trans (World.alloc_heap_new W0 _),hb1⟩
 refine ⟨W0.heap.size+1,[{ target:=.collected W0.heap.size,args:=#[] }],W1,{ target:=.fn (.func g) lb,args:=#[.func (.yield (W0.heap.size+1)) #[] #[]] },W1,g,
  #[.func (.yield (W0.heap.size+1)) #[] #[]] ++ lb,W1,?_,?_,?_,?_,fun _=>h1,?_⟩
 ·rw [← hW1];exact run_enterLoop_outer _ _ _ _ _
 ·simp [resolve,go_sem]
 ·intro f' hf';simp [Target.leads] at hf';subst hf';exact hFg
 ·simp [invoke,go_sem,eg]
 ·refine (hseq (W0.heap.size+1) (Zhi w fn (.func (.func g) #[] lb) w.heap.size (W0.heap.size+1) W0.heap.size) W1 hb1 (Zgv _ _ _ _ _ _ _ hb1.size)
    (fun pre x W hJ hl=>ZoH F (n - 1 - 1) w fn hfn _ w.heap.size (W0.heap.size+1) W0.heap.size ow ow ow (YL _) ow N hN hNb pre x W hJ hl) hM).mono ?_
  rintro e W2 ⟨⟨v0,rfl⟩,ss,G,h2⟩
  obtain ⟨v,hv,hrow,hnil⟩:=h2.box
  have hend:=run_endLoop (P:=prog) h2.L (by simp [kcApRec])
  obtain ⟨W3,hW3⟩:∃ W3,W2.putObj (W0.heap.size+1) (.loop { kcApRec fn (.func (.func g) #[] lb) w.heap.size W0.heap.size .ready none with state:=.exhausted })=W3:=⟨_,rfl⟩
  rw [hW3] at hend
  have hg3:W2.grownBy W3 (some (W0.heap.size+1)):=by rw [← hW3];exact grownBy_putObj_a _ _ _
  have hv3:W3.heap[w.heap.size]? = some (.cells #[v] 31 (0,0)):=by rw [← hW3];exact (World.putObj_heap_other ow).trans hv
  have hK3:W3.heap[W0.heap.size]? = some (.deferred (some [])):=by rw [← hW3];exact (World.putObj_heap_other ow).trans h2.K
  have hrow3:=hrow.kept hg3 (ownsRow_ne_a hrow h2.L (fun cur e=>by first | cases e | exact hne (YbK e).2.1))
  have hb3:Below w.heap.size w W3:=h2.below.grown hg3 h2.below.size (fun k e=>by cases e;omega)
  obtain ⟨hc3,hf3⟩:=cell_of_box_a hv3
  clear hW3
  refine ⟨none,W3,hend,?_⟩
  gi_wp2
  rw [← hs0]
  refine ⟨by simp,.inl ⟨_,_,rfl,run_takeDeferred hK3,?_⟩⟩
  exact ⟨_,results_tmp rfl _ _ _,v,ss,rfl,G,hrow3.kept (grownBy_putObj_a _ _ _) (ownsRow_ne_a hrow3 hK3 (fun cur e=>by first | cases e | exact hne (YbK e).2.1)),hnil,hb3.grown (grownBy_putObj_a _ _ _) hb3.size (fun k e=>by cases e;omega)⟩
set_option maxHeartbeats 1000000 in
theorem ZiI (F:Fence) (n:Nat) (h8:F.fn 133) (h11:F.fn 176) (hro:F.round=none) (hn:3≤n) (g:Nat) (lb:Array Value) (hFg:F.fn g) (eg:∀ args w,(callFunc g args).run prog w = .ok (.enter g args) w)
  (S:List Zg→Prop) (N:Nat) (hN:N≤maxLen) (hNb:N*32≤140737488355328) (w:World) (hseq:SeqGives F (n - 1 - 1) prog g lb Zme S N w) :
  CallsIn F n prog 133 #[.func (.func g) #[] lb] w fun e w'=>∃ (v:Value) (ss:List Zg),e = .returned v∧S ss∧w'.ownsRow w.heap.size 42 4 v ss.length (ss.flatMap Zr9)∧(v = .slice none 0 0 ↔ ss = [])∧Below w.heap.size w w':=by
 have h1:1≤n:=by omega
 have e11:∀ args w,(callFunc 176 args).run prog w = .ok (.enter 176 args) w:=enters_of func176 kr rfl
 refine callsIn_of_wp func133 rfl h8 ?_ hro
 simp only [ntmps133,YaJ,Yl,Yy,Nat.reduceAdd,Nat.reduceSub,Array.replicate_succ,Array.replicate_zero,List.push_toArray,List.append_toArray,Yav,Yah]
 gi_wp2_with (gi_at_fn 176;refine (ZgE F (n - 1) h11 hro ow g lb hFg eg S N hN hNb _ hseq).mono ?_;rintro e w' ⟨v,ss,rfl,G,hrow,hnil,hb⟩)
 go_ret
 exact ⟨v,ss,rfl,G,hrow,hnil,hb⟩
end Go.Proofs.YtlkpllemoepamaaGreat
namespace Go.Proofs.YtlkpllemoepamaaGreat
open Go Go.Gm Tryz
set_option linter.unusedVariables false
set_option linter.unusedSimpArgs false
set_option maxHeartbeats 4000000
set_option maxRecDepth 8000
open Go.RowKit Go.Maps Go.Sort Go.Shelf Go.ChangeMaps Go.MapKept
theorem Zsm {α:Type} {enc:α→Value} {dec:Value→α} (h:∀ x,dec (enc x)=x) {l m:List α} (hp:(l.map enc).Perm (m.map enc)):l.Perm m:=by
 have h1:=hp.map dec
 rw [Ybh,Ybh] at h1
 have e:dec ∘ enc=id:=by funext x;exact h x
 rwa [e,List.map_id,List.map_id] at h1
theorem Zke {ν:Type} (ek:ν→PV) (mv:Value) (es:List (GE Zg ν)) (ck:Nat) (hN:es.length≤1000000000):FnG prog 133 2 [.clos 177 [.ref [.is mv]]] [ZbF ek (fun k=>∀ x ∈ Zas k,inR .i64 x) (kvS Zas) es ck mv,.star []] PV.one (fun v=>[ZbF ek (fun k=>∀ x ∈ Zas k,inR .i64 x) (kvS Zas) es ck mv,.ex fun l:List Zg=>.and (l.Perm (es.map (·.key))) (Zy 42 4 Zq l v)]):=fun w F vs hw hle hvs hpr=>by
 match vs,hvs with
 | [fv],hvs=>
  obtain ⟨caps,hfv,hcaps⟩:=hvs.1
  match caps,hcaps with
  | [cu],hcaps=>
   obtain ⟨Bm,off,us,hcu,hny,hBm,hc,hus⟩:=hcaps.1
   match us,hus with
   | [mu],hus=>
    have hmu:mu=mv:=hus.1.2.1
    subst hmu
    subst hcu
    subst hfv
    obtain ⟨b,rs,hmv,hb,hg,⟨hwf,hkeys⟩,hf⟩:=hpr 0 _ rfl
    have hst:∀ c,¬ F 2 c:=hpr 1 _ rfl
    subst hmv
    have hbl:b<w.heap.size:=(YW.1 hb).1
    have hm:w.cell? ⟨Bm,off,none⟩ = some (.map (some b)):=hc.1
    have hkm:rs.map (·.key)=es.map (·.key):=hg.keys
    have hbm:rs.map (·.born)=es.map (·.born):=hg.borns
    have hnd:(((rs.map (rEnc (kvS Zas))).toArray).toList.map (·.born)).Nodup:=by
     have e1:((rs.map (rEnc (kvS Zas))).toArray).toList.map (·.born)=rs.map (·.born):=by rw [Ybh];rfl
     rw [e1,hbm];exact hwf.1
    have hold:∀ x ∈ ((rs.map (rEnc (kvS Zas))).toArray).toList,x.born<ck:=fun x hx=>by
     obtain ⟨r,hr,rfl⟩:=Yv.1 hx
     have h1:r.born ∈ es.map (·.born):=hbm ▸ Yv.2 ⟨r,hr,rfl⟩
     obtain ⟨e,he,e1⟩:=Yv.1 h1
     show r.born<ck
     rw [← e1];exact hwf.2 e he
    have hkv:∀ x ∈ ((rs.map (rEnc (kvS Zas))).toArray).toList,∃ k:Zg,x.key=Zme k:=fun x hx=>by
     obtain ⟨r,_,rfl⟩:=Yv.1 hx
     exact ⟨r.key,rfl⟩
    have hlen:((rs.map (rEnc (kvS Zas))).toArray).size=es.length:=by
     have h1:=Y4 List.length hkm
     simp at h1 ⊢;exact h1
    have hseq:SeqGives Fence.wide 10 prog 177 #[.pointer (some ⟨Bm,off,none⟩)] Zme (fun ss=>(ss.map Zme).Perm (((rs.map (rEnc (kvS Zas))).toArray).toList.map (·.key))) ((rs.map (rEnc (kvS Zas))).toArray).size w:=fun l J W hW hJ hY h0=>
     ZtD Fence.wide 10 trivial rfl ow l Bm off b ck _ hnd hold hkv J hY W hJ ((hW.cell (p:=⟨Bm,off,none⟩) hBm).trans hm) ((hW.block b hbl).trans hb) h0
    have eg:∀ args w,(callFunc 177 args).run prog w = .ok (.enter 177 args) w:=enters_of func177 kr rfl
    have hcalls:=callsIn_wide.1 (ZiI Fence.wide 12 trivial trivial rfl ow 177 #[.pointer (some ⟨Bm,off,none⟩)] trivial eg _ _ (by rw [hlen];unfold maxLen;omega) (by rw [hlen];omega) w hseq)
    refine hcalls.mono ?_
    rintro e w' ⟨v,ss,rfl,G,hrow,hnil,hbel⟩
    have hss:ss.Perm (es.map (·.key)):=by
     have e1:((rs.map (rEnc (kvS Zas))).toArray).toList.map (·.key)=(es.map (·.key)).map Zme:=by
      rw [← hkm,Ybh,Ybh];rfl
     rw [e1] at G
     exact Zsm Zsp G
    have hown:∀ c,v.ownBlock=some c→w.heap.size≤c∧c<w'.heap.size:=fun c hc9=>by
     rcases hrow.2 with ⟨rfl,_⟩ | ⟨g,cap,cur,rfl,hbase,hgb,_⟩
     ·simp [Value.ownBlock] at hc9
     ·simp [Value.ownBlock] at hc9
      subst hc9
      exact ⟨hbase,(YW.1 hgb).1⟩
    have hrow0:w'.ownsRow 0 42 4 v ss.length (ss.flatMap Zr9):=⟨hrow.1,by
     rcases hrow.2 with h | ⟨g,cap,cur,h1,_,h3⟩
     ·exact .inl h
     ·exact .inr ⟨g,cap,cur,h1,Yx _,h3⟩⟩
    have hst2:Stp (List.range' 1 2) w F w' (fun n c=>F n c∨(n=2∧v.ownBlock=some c)):=⟨hbel.os,hbel.tape,hbel.output,hbel.size,fun c hc9 _=>hbel.block c hc9,fun n hn=>by
      funext c
      have:n≠2:=fun e=>hn (by subst e;simp)
      simp [this],fun n hn c hc9=>by
      rcases hc9 with h | ⟨_,h⟩
      ·exact .inl ⟨n,hn,h⟩
      ·exact .inr (hown c h).1⟩
    refine ⟨v,_,rfl,⟨fun n m c h1 h2=>?_,fun n c h1=>?_⟩,hst2,fun n c h1=>?_,?_,fun i h hi=>?_⟩
    ·rcases h1 with h1 | ⟨h1,h1'⟩ <;> rcases h2 with h2 | ⟨h2,h2'⟩
     ·exact hw.dis n m c h1 h2
     ·have:=hw.bd n c h1;have:=(hown c h2').1;omega
     ·have:=hw.bd m c h2;have:=(hown c h1').1;omega
     ·omega
    ·rcases h1 with h1 | ⟨_,h1⟩
     ·have:=hw.bd n c h1;have:=hbel.size;omega
     ·exact (hown c h1).2
    ·rcases h1 with h1 | ⟨h1,_⟩
     ·exact hle n c h1
     ·omega
    ·show v.oneCell' = true
     rcases hrow.2 with ⟨rfl,_⟩ | ⟨g,cap,cur,rfl,_⟩ <;> rfl
    ·match i,hi with
     | 0,hi=>
      simp only [YbF,Y6] at hi
      subst hi
      exact ⟨b,rs,rfl,(hbel.block b hbl).trans hb,hg.mono hst2.ev,⟨hwf,hkeys⟩,fun c=>by rw [← hf c];simp⟩
     | 1,hi=>
      simp only [List.getElem?_cons_succ,YbF,Y6] at hi
      subst hi
      refine ⟨ss,hss,ss.flatMap Zr9,hrow0,ZpB fun x hx=>?_,fun c=>?_⟩
      ·obtain ⟨e,he,e1⟩:=Yv.1 (hss.mem_iff.1 hx)
       rw [← e1];exact hkeys e he
      ·have:=hst c
       simp [this]
end Go.Proofs.YtlkpllemoepamaaGreat
namespace Go.Proofs.YtlkpllemoepamaaGreat
open Go Go.Gm Tryz
set_option linter.unusedVariables false
set_option linter.unusedSimpArgs false
set_option maxHeartbeats 4000000
set_option maxRecDepth 8000
theorem Zug (mv:Value):FnP prog 134 [.is mv] (.clos 177 [.ref [.is mv]]):=by
 refine FnP.mk func134 rfl ntmps134 rfl fun B a w F V hfr G=>Ya ?_
 refine Zb G (qf (Zf6 101 .t one_is) r1 qz (qC qZ)) V [2,1] [101,0] (fun _=>rfl) (fun _=>rfl) fun τ a w F G=>?_
 try dsimp only [RS.sub,SF.sub,CF.sub,csub,Anc.sub,List.map,zCF,Zw,rTx,ZJ,ZT,Zn,rOp] at G
 generalize τ 1=v1 at G
 obtain ⟨F,G⟩:=G.giveRef 101 1 rfl rfl rfl
 obtain ⟨F,G⟩:=G.nM [2,1] [0]
 try dsimp only [Go.Gm.unCF] at G
 refine Za (Ya (rZ G (qf (ZaT (Args.one .t)) r1 qz (qO rr qZ)) V [2] [0] fun G=>Yh ?_))
 refine Zs hfr G rfl rfl rfl .refl
theorem ZfQ (l:List Zg):(ZbK ltE l).length≤l.length:=by
 have key:∀ (l acc:List Zg),(l.foldl (Znk ltE) acc).length≤acc.length+l.length:=by
  intro l
  induction l with
  | nil=>intro acc;simp
  | cons e l ih=>
   intro acc
   rw [Yan,Yl]
   have h1:=ih (Znk ltE acc e)
   have h2:(Znk ltE acc e).length≤acc.length+1:=ZiD ltE e acc false
   omega
 have:=key l []
 unfold ZbK
 simpa using this
theorem Zvl (mv:Value) (AA:List (Zg×Int)) (RR:List Zg) (hAR:AA.length+RR.length≤1000000):FnG prog 77 1 [.is mv] [ZfZ AA RR mv] (.sl rHv (Zgf AA RR)) (fun _=>[ZfZ AA RR mv]):=by
 refine FnG.mk func77 rfl ntmps77 rfl kr fun B F0 a w F V hG G=>?_
 obtain ⟨⟨es,ck⟩,G⟩:=G.open_ex 1 rfl
 obtain ⟨hE,G⟩:=G.open_and 1 rfl
 replace G:=G.turn 1 rfl (r':=.ob (.val mv) (ZbF (fun n:Int=>PV.int .i64 n) (fun k=>∀ x ∈ Zas k,inR .i64 x) (kvS Zas) es ck)) (fun _ _ _ _ h=>h)
 try dsimp only at hE
 obtain ⟨F,G⟩:=G.nM [0] [1,0]
 refine Ya (rZ G (qC qZ) V [2,0] [1,0] fun G=>Ya ?_)
 refine rZ G (qC qZ) V [3,2,0] [1,0] fun G=>(Ya (Ya ?_))
 replace G:=G.fresh 60 rfl
 replace G:=G.turn 1 rfl (r':=RS.hp (ZbF (fun n:Int=>PV.int .i64 n) (fun k=>∀ x ∈ Zas k,inR .i64 x) (kvS Zas) es ck mv)) (fun _ _ _ _ h=>h)
 obtain ⟨F,G⟩:=G.nM [3,2,0] [60,1,0]
 refine Zat 3 G kr (cG rfl (oM .t) r1 trivial (cG rfl (oP (Zug mv) func134 (Args.one .t)) r1 trivial (cG rfl (Zpj 1 60 (Zke (fun n:Int=>PV.int .i64 n) mv es ck (by have:=hE.len;omega)) func133 rfl kr rfl (Args.one .t) pvOne1) r1 r2 ChainN.nil))) kr (by rw [V];kernel_rfl) fun a w F G=>?_
 replace G:=G.sub
 obtain ⟨F,G⟩:=G.nM [8,3,2,0] [60,1,0]
 try dsimp only [RS.sub,SF.sub,CF.sub,csub,Anc.sub,List.map,Zw,rTx,ZJ,ZT,Zn,rOp,Zq,rHv] at G
 generalize Act.tau a 8=v8 at G
 replace G:=G.turn 60 rfl (r':=RS.hp (HP.ex fun l:List Zg=>HP.and (l.Perm (es.map fun z:GE Zg Int=>z.key)) (Zy 42 4 Zq l v8))) (fun _ _ _ _ h=>h)
 obtain ⟨ks,G⟩:=G.open_ex 60 rfl
 obtain ⟨hks,G⟩:=G.open_and 60 rfl
 replace G:=G.turn 60 rfl (r':=.ob (.val v8) (Zy 42 4 Zq ks)) (fun _ _ _ _ h=>h)
 have hkl:ks.length≤1000000:=by have h1:=hks.length_eq;have h2:=hE.len;rw [YH] at h1;omega
 replace G:=G.turn 1 rfl (r':=.ob (.val mv) (ZbF (fun n:Int=>PV.int .i64 n) (fun k=>∀ x ∈ Zas k,inR .i64 x) (kvS Zas) es ck)) (fun _ _ _ _ h=>h)
 obtain ⟨F,G⟩:=G.give 60 8 rfl rfl
 obtain ⟨F,G⟩:=G.nM [8,3,2,0] [1,0]
 refine ZaG G kr (cG rfl (oP (Zsf ks hkl) func132 (Args.one .t)) r1 trivial (cG rfl (ZcD Yce .t) r1 trivial (cG rfl (oM (.ci kr)) trivial trivial ChainN.nil))) kr (by rw [V];kernel_rfl) fun a w F G=>?_
 obtain ⟨F,G⟩:=G.nM [11,10,9,3,2,0] [1,0]
 try dsimp only [Zw,rTx,ZJ,ZT,Zn,rOp,Zq,rHv] at G
 rw [ZfF hE hks] at G
 have hkn:(ZbK ltE (ZgC AA RR)).length≤1000000:=by rw [← ZfF hE hks];exact Y1 (ZfQ ks) hkl
 refine Za (Yg ?_)
 replace G:=G.fresh 50 rfl
 replace G:=G.turn 50 rfl (ZaE (T:=125) (sz:=5) (R:=rHv))
 refine Zl (σ:=(Nat)×(Value)×(List HvD)) [0,2,9,10] [0,1] (fun s=>[(11,.pv (.int .i64 (s.1:Int))),(3,.pv (.is s.2.1))]) (fun s=>[(50,.ob (.val s.2.1) (Zy 125 5 rHv s.2.2))]) (fun s=>s.1≤(ZbK ltE (ZgC AA RR)).length∧(s.2.2=((ZbK ltE (ZgC AA RR)).take s.1).map fun e=>(⟨e,cntA AA RR e⟩:HvD))) (fun s=>(ZbK ltE (ZgC AA RR)).length - s.1) ((0),(.slice none 0 0),([])) G ⟨rfl,rfl,rfl,rfl,rfl,rfl,tv⟩ ⟨rfl,rfl,rfl,tv⟩ ⟨Yx _,rfl⟩ ?_
 clear G;intro s a w F hC G
 obtain ⟨i,v,out⟩:=s
 try dsimp only at hC
 obtain ⟨F,G⟩:=G.nM [11,10,9,3,2,0] [50,1,0]
 try dsimp only at G
 obtain ⟨hi,hq⟩:=hC
 have hol:out.length≤i:=by rw [hq,YH,Yi];omega
 refine Ya (rZ G (qL r2) V [12,11,10,9,3,2,0] [50,1,0] fun G=>Ya ?_)
 refine Zc G rfl (fun hc0=>?_) (fun hc0=>?_)
 ·have hil:i<(ZbK ltE (ZgC AA RR)).length:=by simp at hc0;omega
  refine Ye (Za (Ya (Yg (Ya (Zb G (qy 4 Yce r2 (qf (oR true 4 .t) r1 qz (qf (oH [.int .i64 0,.int .i64 0,.int .i64 0,.int .i64 0] 101) trivial qz (qS 4 101 r2 r1 qZ)))) V [11,10,9,5,3,2,0] [101,50,1,0] (fun _=>rfl) (fun _=>rfl) fun τ a w F G=>?_)))))
  try dsimp only [RS.sub,SF.sub,CF.sub,csub,Anc.sub,List.map,Zf,xL,xM,Nat.reduceAdd,xD,xE,xT,xU,xC,xN,zCF,ldSF,Zw,rTx,ZJ,ZT,Zn,rOp,Zq,rHv] at G
  generalize τ 5=v5 at G
  try simp only [Yb] at G
  refine Za (ZaD G (qR rr (qe 4 101 r1 r1 (qR rr (qe 4 101 r1 r1 (qf (Zap (ek:=(fun n:Int=>PV.int .i64 n)) (z0:=(0)) 1 Ycr Zc2 kr (fun _ _=>⟨rfl,ZcS⟩) .is (ZL.agg (enc:=Zas) (k:=Nn (ZbK ltE (ZgC AA RR)) i) (.pagg .t) rfl)) r2 r1 (qf (oB [(0,.tmp 16),(1,.tmp 19)] [.int .i64 0,.int .i64 0,.int .i64 0,.int .i64 0,.int .i64 0] [(0,4),(4,1)] (.agg rfl .t kr kr (.one rfl .t one_int kr .nil))) r2 qz (qf (o_buildSliceE (sz:=5) (zs:=[.int .i64 0,.int .i64 0,.int .i64 0,.int .i64 0,.int .i64 0]) (r:=[(0,.tmp 20)]) (l:=[_,_,_,_,_]) underlying73 kr kr kr kr rfl rfl (.agg rfl .t kr kr .nil) rfl) r1 qz (qf (ZR (sz:=5) (bs:=40) 50 (.mk' underlying73 kr kr) (by intro x;rfl) .is (.arr (l':=[(⟨Nn (ZbK ltE (ZgC AA RR)) i,(gGet (Nn (ZbK ltE (ZgC AA RR)) i) es).getD 0⟩:HvD)]) .t) (by simp only [Yd,Yl,Yy];omega) (by decide)) ⟨rfl,rfl,tv⟩ ⟨rfl,tv⟩ (qO rr qZ))))))))) V [11,10,9,3,2,0] [101,50,1,0] (fun _=>rfl) (fun _=>rfl) fun τ a w F G=>?_)
  try dsimp only [RS.sub,SF.sub,CF.sub,csub,Anc.sub,List.map,Zf,xL,xM,Nat.reduceAdd,xD,xE,xT,xU,xC,xN,zCF,ldSF,Zw,rTx,ZJ,ZT,Zn,rOp,Zq,rHv] at G
  generalize τ 22=v22 at G
  refine Zi (Za (rZ G (qp r1 (qR rr qZ)) V [11,10,9,3,2,0] [101,50,1,0] fun G=>?_))
  replace G:=G.ent (i:=11) (s':=.pv (.int .i64 ((i+1:Nat):Int))) rfl (.int (Zd ow))
  obtain ⟨F,G⟩:=G.nM [10,9,2,0,3,11] [1,0,50]
  exact ⟨((i+1),_,_),F,⟨by omega,(by rw [Zp hil,YQ,← hq,List.map_singleton];unfold cntA;rw [hE.val])⟩,G,by omega⟩
 have hil:i=(ZbK ltE (ZgC AA RR)).length:=by simp at hc0;omega
 refine Yw (Zj (Zj (Zo (Za (Ya (rZ G (qR rr (qO rr qZ)) V [2] [50,1,0] fun G=>Yh ?_))))))
 obtain ⟨F,G⟩:=G.give 50 2 rfl rfl
 have G:=G.turn 1 rfl (r':=RS.hp (ZfZ AA RR mv)) (fun _ _ _ _ h=>⟨(es,ck),hE,h⟩)
 refine Zaf hG G rfl (.tmp rfl .nil) (.one (.sl (by rw [hq,hil,YA];rfl))) rfl
theorem Zrj (x:Int):FnP prog 79 [.int .i64 x] (.bool ((fun _=>true) x)):=by
 refine FnP.mk func79 rfl ntmps79 rfl fun B a w F V hfr G=>Ya ?_
 refine rZ G qB V [2] [0] fun G=>Ya ?_
 refine rZ G qB V [2] [0] fun G=>Yh ?_
 refine Zs hfr G rfl rfl rfl (.bool rfl)
theorem ZpL (g:Zr) (hsm:Za9 g) (hAR:(wwC (fun _=>true) g).length+(rdC (fun _=>true) g).length≤1000000):FnP prog 38 [.agg (Zw g)] (.sl rHv (Zgf (wwC (fun _=>true) g) (rdC (fun _=>true) g))):=by
 refine FnP.mk func38 rfl ntmps38 rfl fun B a w F V hfr G=>Ya ?_
 refine Zb G (qx 101 r1 (qC qZ)) V [2,1] [101,0] (fun _=>rfl) (fun _=>rfl) fun τ a w F G=>?_
 try dsimp only [RS.sub,SF.sub,CF.sub,csub,Anc.sub,List.map,zCF,Zw,rTx,ZJ,ZT,Zn,rOp,rHv] at G
 generalize τ 1=v1 at G
 refine Za (Ya ?_)
 replace G:=G.fresh 102 rfl
 refine Zat 2 G kr (cG rfl (oL true 2 101 .is) r1 r1 (cG rfl (Zar 102 (Zpx g hsm (fun _=>true) 79 f79 [] func79 rfl kr (fun x=>Zrj x)) func78 rfl kr (Args.two (.pagg .t) (.conv .f (Ent.fnClos))) pvOne1) r1 r1 ChainN.nil)) kr (by rw [V];kernel_rfl) fun a w F G=>?_
 replace G:=G.sub
 obtain ⟨F,G⟩:=G.nM [4,2] [102,101,0]
 try dsimp only [RS.sub,SF.sub,CF.sub,csub,Anc.sub,List.map,xD,xE,xT,xU,ldSF,Zw,rTx,ZJ,ZT,Zn,rOp,rHv] at G
 generalize Act.tau a 4=v4 at G
 replace G:=G.turn 102 rfl (r':=RS.hp (ZfZ (wwC (fun _=>true) g) (rdC (fun _=>true) g) v4)) (fun _ _ _ _ h=>h)
 obtain ⟨F,G⟩:=G.nM [4,2] [102,101,0]
 refine ZaG G kr (cG rfl (ZK 102 (Zvl _ (wwC (fun _=>true) g) (rdC (fun _=>true) g) hAR) func77 rfl kr (Args.one .t)) r1 r1 (cG rfl (oN .t) r1 trivial ChainN.nil)) kr (by rw [V];kernel_rfl) fun a w F G=>?_
 obtain ⟨F,G⟩:=G.nM [2] [102,101,0]
 try dsimp only [Zw,rTx,ZJ,ZT,Zn,rOp,rHv] at G
 refine Za (Yh (Zs hfr G rfl rfl rfl .refl))
end Go.Proofs.YtlkpllemoepamaaGreat
