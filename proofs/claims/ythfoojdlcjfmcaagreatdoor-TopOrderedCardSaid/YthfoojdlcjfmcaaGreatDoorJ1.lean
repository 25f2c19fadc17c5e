/- Laws and walks. No condition beyond what each says. -/
import Derived.Test.YthfoojdlcjfmcaaGreatDoorJ0
import Derived.Test.YthfoojdlcjfmcaaGreatDoorLibRg
import Derived.Test.YthfoojdlcjfmcaaGreatDoorLibI
import Derived.Shelf.GgSortFunc.Tiny
namespace Go.Proofs.YthfoojdlcjfmcaaGreatDoor
open Go Go.Gm Tryz
set_option linter.unusedVariables false
set_option linter.unusedSimpArgs false
set_option maxHeartbeats 4000000
set_option maxRecDepth 8000
theorem Zpa (room:Int):FnG prog 90 1 [.int .i64 room] [gH ZhQ Zh1] (PV.ptr) (fun v=>[clH v (roomN room) [] []]):=by
 refine FnG.mk func90 O ntmps90 O kr fun B F0 a w F J hG G=>Ya ?_
 refine rZ G (qC qZ) J [2,0] [1,0] fun G=>Ya ?_
 refine Zf G (qR rr (qf (ZkR .t qi) r1 qz (qf (ZlI .t qi) r1 qz (qO rr qZ)))) J [2,0] [1,0] O O fun a w F G=>?_
 rw [Zix] at G
 refine Za (Ya (Zb G (qf (Z7 (ek:=(fun c:Int=>PV.int .i32 c)) (ok:=(fun k:Zy=>∀ x ∈ Zpz k,inR .i32 x)) (kv:=(kv32 Zpz)) 101) trivial qz (qf (oB [(0,.tmp 7)] [.map none,.slice none 0 0,.slice none 0 0,.slice none 0 0] [(0,1),(1,1),(2,1),(3,1)] (.same O kr .nil)) r1 qz (qf (oX 102 .t) r1 qz (qO rr qZ)))) J [3,2,0] [102,101,1,0] (fun _=>rfl) (fun _=>rfl) fun τ a w F G=>?_))
 try dsimp only [RS.sub,SF.sub,CF.sub,csub,Anc.sub,List.map,Zg,xL,xM,Nat.reduceAdd,xD,xE,xT,xU,xC,xN,zCF,rV,Zpy] at G
 generalize τ 9=v9,τ 7=v7 at G
 refine Za (Ya (Ya (Zf G (qR rr (qJ qZ)) J [11,10,3,2,0] [102,101,1,0] O O fun a w F G=>?_)))
 replace G:=G.fresh 50 rfl
 replace G:=G.turn 50 O (Zbm (T:=167) (sz:=1) (R:=rV))
 replace G:=G.fresh 51 rfl
 replace G:=G.turn 51 O (Zbm (T:=167) (sz:=1) (R:=rV))
 replace G:=G.fresh 60 rfl
 replace G:=G.turn 60 O (r':=ZeZ (ZdC (roomN room)) (ZbR [] (fun k=>Zdi [] (roomN room) (k:Int)))) (fun _ _ _ _ h=>h)
 obtain ⟨F,G⟩:=G.nM [11,10,3,2,0] [102,101,60,51,50,1,0]
 replace G:=G.fresh 61 rfl
 replace G:=G.turn 61 O (r':=ZeZ (ZdC (roomN room)) (ZbR [] (fun k=>Zay [] (k:Int)))) (fun _ _ _ _ h=>h)
 obtain ⟨F,G⟩:=G.nM [11,10,3,2,0] [102,101,61,60,51,50,1,0]
 refine Za (Yj (Zo (σ:=Nat×Value×List Value×Value×List Value) [0,2,3,10] [0,1,101] (fun s=>[(11,.pv (.int .i64 (s.1:Int)))]) (fun s=>[(102,.pt (.val v9) 215 [.pv (.is v7),.pv (.is s.2.1),.pv (.is s.2.2.2.1),.pv (.is (.slice none 0 0))]),(50,.ob (.val s.2.1) (Zs 167 1 rV s.2.2.1)),(51,.ob (.val s.2.2.2.1) (Zs 167 1 rV s.2.2.2.2)),(60,ZeZ (ZdC (roomN room)) (ZbR s.2.2.1 (fun k=>Zdi [] (roomN room) (k:Int)))),(61,ZeZ (ZdC (roomN room)) (ZbR s.2.2.2.2 (fun k=>Zay [] (k:Int))))]) (fun s=>s.1≤(roomN room)∧s.2.2.1.length=s.1∧s.2.2.2.2.length=s.1) (fun s=>(roomN room) - s.1) ((0),(.slice none 0 0),([]),(.slice none 0 0),([])) G ⟨rfl,rfl,rfl,rfl,rfl,tv⟩ ⟨rfl,rfl,rfl,rfl,rfl,rfl,rfl,rfl,tv⟩ ⟨Yr _,rfl,rfl⟩ ?_))
 clear G;intro s a w F hC G
 obtain ⟨i,u1,p1,u2,p2⟩:=s
 try dsimp only at hC
 obtain ⟨F,G⟩:=G.nM [11,10,3,2,0] [102,101,61,60,51,50,1,0]
 try dsimp only at G
 obtain ⟨hi,hp1,hp2⟩:=hC
 refine Ya (rZ G (qL r2) J [12,11,10,3,2,0] [102,101,61,60,51,50,1,0] fun G=>Ya ?_)
 refine Zc G O (fun hc0=>?_) (fun hc0=>?_)
 ·have hil:i<(roomN room):=by simp at hc0;omega
  have hrl:=ZaS room
  refine Yi (Za (Ya (Yj (Ya ?_))))
  replace G:=G.dupG 1 70 O rfl
  refine Zbb G (qR rr (qR rr (qf (Zr 102 .is (by rfl)) r1 r1 (qf (oF 1 102 .adr) r1 r1 (qa 102 r1 r1 (qR rr (qf (ZaT 70 (Zfg (((roomN room):Nat):Int)) func88 O kr (Args.one .t) PV.ptr_one) r1 r1 (qf (Zge (i:=19) (j:=19) (p:=fun z=>.arr 1 [.is z]) (by rfl) (fun z=>Zz (sz:=1) (zs:=[.pointer none]) (r:=[(0,.tmp 19)]) (l:=[_]) YbF kr kr kr kr O O (.one O .t Zfl kr .nil) O)) r1 qz (qf (ZiB (i:=20) (j:=19) (by rfl) (fun z=>Z4 (sz:=1) (bs:=8) 50 (.mk' YbF kr kr) (by intro x;rfl) .is (.arr (l':=[z]) .t) (by simp only [Yd,Yv,YS];omega) (by decide))) ⟨rfl,rfl,tv⟩ ⟨rfl,tv⟩ (qf (Zr 102 .is (by rfl)) r1 r1 (qf (oF 1 102 .adr) r1 r1 (qf (Zah 102 .adr kr kr) r2 r1 qZ)))))))))))) J [11,10,3,2,0] [102,101,70,61,60,51,50,1,0] (fun _=>rfl) (fun _=>rfl) fun τ a w F G=>?_
  try dsimp only [RS.sub,SF.sub,CF.sub,csub,Anc.sub,List.map,Zg,xL,xM,Nat.reduceAdd,xD,xE,xT,xU,xC,xN,zCF,ldSF,rV,Zpy] at G
  generalize τ 19=v19,τ 21=v21 at G
  rw [Zcd ow] at G
  replace G:=G.turn 70 O (r':=RS.hp (ZdC (roomN room) (v19,[]))) (fun _ _ _ _ h=>h)
  obtain ⟨F,G⟩:=Sat.pushFam (ZdC (roomN room)) (L:=ZbR p1 (fun k=>Zdi [] (roomN room) (k:Int))) (x:=(v19,[])) G 60 70 O O rfl
  rw [Zcf (by exact (Zg9 _ _).symm)] at G
  obtain ⟨F,G⟩:=G.nM [11,10,3,2,0] [102,101,61,60,51,50,1,0]
  refine Za ?_
  replace G:=G.dupG 1 71 O rfl
  refine Zbb G (qR rr (qR rr (qf (Zr 102 .is (by rfl)) r1 r1 (qf (oF 2 102 .adr) r1 r1 (qa 102 r1 r1 (qR rr (qf (ZaT 71 (Zfg (((roomN room):Nat):Int)) func88 O kr (Args.one .t) PV.ptr_one) r1 r1 (qf (Zge (i:=30) (j:=30) (p:=fun z=>.arr 1 [.is z]) (by rfl) (fun z=>Zz (sz:=1) (zs:=[.pointer none]) (r:=[(0,.tmp 30)]) (l:=[_]) YbF kr kr kr kr O O (.one O .t Zfl kr .nil) O)) r1 qz (qf (ZiB (i:=31) (j:=30) (by rfl) (fun z=>Z4 (sz:=1) (bs:=8) 51 (.mk' YbF kr kr) (by intro x;rfl) .is (.arr (l':=[z]) .t) (by simp only [Yd,Yv,YS];omega) (by decide))) ⟨rfl,rfl,tv⟩ ⟨rfl,tv⟩ (qf (Zr 102 .is (by rfl)) r1 r1 (qf (oF 2 102 .adr) r1 r1 (qf (Zah 102 .adr kr kr) r2 r1 qZ)))))))))))) J [11,10,3,2,0] [102,101,71,61,60,51,50,1,0] (fun _=>rfl) (fun _=>rfl) fun τ a w F G=>?_
  try dsimp only [RS.sub,SF.sub,CF.sub,csub,Anc.sub,List.map,Zg,xL,xM,Nat.reduceAdd,xD,xE,xT,xU,xC,xN,zCF,ldSF,rV,Zpy] at G
  generalize τ 30=v30,τ 32=v32 at G
  rw [Zcd ow] at G
  replace G:=G.turn 71 O (r':=RS.hp (ZdC (roomN room) (v30,[]))) (fun _ _ _ _ h=>h)
  obtain ⟨F,G⟩:=Sat.pushFam (ZdC (roomN room)) (L:=ZbR p2 (fun k=>Zay [] (k:Int))) (x:=(v30,[])) G 61 71 O O rfl
  rw [Zcf (by exact (Zfd _).symm)] at G
  obtain ⟨F,G⟩:=G.nM [11,10,3,2,0] [102,101,61,60,51,50,1,0]
  refine Zk (Za (rZ G (qp r1 (qR rr qZ)) J [11,10,3,2,0] [102,101,61,60,51,50,1,0] fun G=>?_))
  replace G:=G.ent (i:=11) (s':=.pv (.int .i64 ((i+1:Nat):Int))) O (.int (Zh ow))
  obtain ⟨F,G⟩:=G.nM [10,3,2,0,11] [101,1,0,61,60,51,50,102]
  exact ⟨((i+1),(v21),((p1 ++ [v19])),(v32),((p2 ++ [v30]))),F,⟨by omega,by rw [Yd,Yax,hp1],by rw [Yd,Yax,hp2]⟩,G,(by show _ - (i+1)<_ - i;omega)⟩
 have hil:i=(roomN room):=by simp at hc0;omega
 refine YA (Zj (Zj (Zw (Za (Ya (rZ G (qR rr (qO rr qZ)) J [2] [102,101,61,60,51,50,1,0] fun G=>Yg ?_))))))
 obtain ⟨b,rfl⟩:=G.shape 102 rfl
 replace G:=G.fresh 52 rfl
 replace G:=G.turn 52 O (Zbm (T:=3) (sz:=1) (R:=rInt))
 obtain ⟨F,G⟩:=G.giveCell 52 102 3 O O O O rfl
 try dsimp only [List.set] at G
 obtain ⟨F,G⟩:=G.nM [2] [61,60,51,50,101,102,0]
 have G:=G.fresh 1 rfl
 obtain ⟨F,G⟩:=G.push 1 61 O O O kr
 obtain ⟨F,G⟩:=G.push 1 60 O O O kr
 obtain ⟨F,G⟩:=G.push 1 51 O O O kr
 obtain ⟨F,G⟩:=G.push 1 50 O O O kr
 obtain ⟨F,G⟩:=G.push 1 101 O O O kr
 obtain ⟨F,G⟩:=G.push 1 102 O O O kr
 have G:=G.turn 1 O (r':=RS.hp (clH (.pointer (some ⟨b,0,none⟩)) (roomN room) [] [])) (fun _ _ _ _ h=>⟨(⟨v7,u1,u2,p1,p2,[],0⟩:Zpq),Zma.new (ZaS room) (by show p1.length=_;omega) (by show p2.length=_;omega) rfl,h⟩)
 refine Zab (h':=fun v=>clH v (roomN room) [] []) hG G O (.tmp O .nil) (.one .ptr) rfl
def ZpQ (n:Nat) (x:List Int):List PV:=[setR n x]
def ZoU (q:List Zy) (n:Nat):List (List Int):=(List.range n).map fun k:Nat=>Zdi q n (k:Int)
abbrev Zp5:Type:=(Value×List Int)×Option (Value×List Int)
def Zp9 (t:Zp5):Value×List Int:=t.2.getD t.1
theorem ZdK {w:World} {y:Ys} : ∀ {rs:List RS} {f:Ys},stars w y rs f → ∀ r ∈ rs,∃ f1:Ys,(∀ b,f1 b→f b)∧r.holds tau0 w f1 y
 | [],f,_,r,h=>by cases h
 | x :: rs,f,⟨f1,f2,h1,h2,h3,h4,h5⟩,r,hr=>by
  rcases Yo.1 hr with rfl | hr
  ·exact ⟨f1,fun b hb=>(h1 b).2 (.inl hb),h4⟩
  ·obtain ⟨g,g1,g2⟩:=ZdK h5 r hr
   exact ⟨g,fun b hb=>(h1 b).2 (.inr (g1 b hb)),g2⟩
structure Zqi (n:Nat) (q q':List Zy) (rs:List Value) (i:Nat) (ts:List Zp5):Prop where
 len:ts.length=n
 old:∀ k,k<n→(Nn ts k).1=(Nn rs k,Zay q (k:Int))
 cur:∀ k,k<n→(Zp9 (Nn ts k)).2=Zqd q q' i k
 rest:∀ k,k<n→i≤k→(Nn ts k).2=none
theorem ZmH (ps:List Value) (f:Nat→List Int):(ZbR ps f).map (·.1)=ps:=by
 apply Ybi (by rw [YY,Zl1])
 intro j h1 h2
 simp [ZbR,Zm h2]
theorem Zne (ps:List Value) (f:Nat→List Int):(ZbR ps f).map (·.2)=(List.range ps.length).map f:=by
 unfold ZbR
 rw [Ybu];rfl
theorem Zit {n:Nat} {w:World} {y y':Ys} : ∀ {ps:List (Value×List Int)} {xs:List Value},PVs ((ps.map (·.1)).flatMap rV) xs w y→(∀ p ∈ ps,(setR n p.2).p p.1 w y')→PVs ((ps.map (·.2)).flatMap (ZpQ n)) xs w y'
 | [],[],_,_=>trivial
 | p :: ps,x :: xs,h,hp=>by
  have h1:(x.oneCell' = true∧x=p.1∧x.oneCell' = true)∧PVs ((ps.map (·.1)).flatMap rV) xs w y:=h
  have e:x=p.1:=h1.1.2.1
  exact ⟨⟨h1.1.1,by rw [e];exact hp p (by simp)⟩,Zit h1.2 fun z hz=>hp z (by simp [hz])⟩
 | [],_ :: _,h,_=>h.elim
 | _ :: _,[],h,_=>h.elim
abbrev Zqb (a1 a2 a3:Nat) (v:Value) (n:Nat) (q:List Zy) (cv nv rv:Value) (ns:List Value) (pl:PV):List (Nat×RS):=[(a1,.pt (.val v) 215 [.pv (.is cv),.pv (.is nv),.pv (.is rv),.pv pl]),(a2,.ob (.val nv) (Zs 167 1 rV ns)),(a3,ZeZ (ZdC n) (ZbR ns fun k=>Zdi q n (k:Int)))]
theorem ZdU {q:List Zy} {u v w:Int} (h1:v ∈ Zay q u) (h2:w ∈ Zay q v):w ∈ Zay q u:=((Zbp q u).2 w).2 ((((Zbp q u).2 v).1 h1).trans (((Zbp q v).2 w).1 h2))
def ZjL (q:List Zy) (x u:Int):Prop:=x=u∨(x ∈ Zay q u∧u ∈ Zay q x)
instance (q:List Zy) (x u:Int):Decidable (ZjL q x u):=by unfold ZjL;infer_instance
theorem ZjL.symm {q:List Zy} {x u:Int} (h:ZjL q x u):ZjL q u x:=h.imp Eq.symm And.symm
theorem ZjL.trans {q:List Zy} {x u v:Int} (h:ZjL q x u) (k:ZjL q u v):ZjL q x v:=by
 rcases h with rfl | ⟨h1,h2⟩
 ·exact k
 ·rcases k with rfl | ⟨k1,k2⟩
  ·exact .inr ⟨h1,h2⟩
  ·exact .inr ⟨ZdU k1 h1,ZdU h2 k2⟩
def ZeU (n:Nat) (q:List Zy) (u:Int):List Int:=((List.range n).map fun j:Nat=>(j:Int)).filter fun x=>decide (ZjL q x u)
theorem ZlU (n:Nat) (q:List Zy) (u:Int):Up n (ZeU n q u):=⟨(Zii n).1.filter _,fun i hi=>(Zii n).2 i (YN.1 hi).1⟩
theorem Zlz {n:Nat} {q:List Zy} {u x:Int} : x ∈ ZeU n q u ↔ Zo0 n x∧ZjL q x u:=by
 unfold ZeU
 rw [YN,Zgr,Yu]
def Zo1 (n:Nat) (q:List Zy) (u:Int):Int:=Nn (ZeU n q u) 0
structure Zn5 where
 nodes:List Int
 arcs:List ZeS
 deriving DecidableEq,Inhabited
def ZpJ (n:Nat) (q:List Zy) (i:Int) (a:ZeS):Bool:=decide (Zo1 n q a.src=i) && decide (Zo1 n q a.dst=i)
def Zo6 (n:Nat) (q:List Zy) (i:Int):List ZeS:=(Zkv q).filter (ZpJ n q i)
def ZpK (n:Nat) (q:List Zy) (i:Nat):Zn5:=⟨ZeU n q (i:Int),Zo6 n q (i:Int)⟩
def ZoS (n:Nat) (q:List Zy) (k:Nat):List Zn5:=((List.range k).filter fun i:Nat=>decide (Zo1 n q (i:Int)=(i:Int))).map (ZpK n q)
abbrev Zp1 (n:Nat) (q:List Zy):List Zn5:=ZoS n q n
theorem ZjO {α:Type} {R:α→List PV} {zs:List Value} {sz:Nat} {v:α} (hz:zs.length=sz) (h0:0<sz) (hp:∀ w yy,PVs (R v) zs w yy) (n:Nat):∀ u ∈ (madeCells zs.toArray (n*sz)).toList,u.oneCell' = true:=
 (Zch (R:=R) (v:=v) hz h0 (hp (default:World) (fun _=>False)) n).one
theorem Zki {α:Type} {l:List α} {i:Nat} {x:α} (h:i=l.length):l.take i ++ [x] ++ l.drop i=l ++ [x]:=by rw [h];simp
theorem Zib {α:Type} {l l2 l3:List α} {i:Nat} {x z:α} (hi:i<l.length) (h2:l2=l.take i++List.replicate (l.length+1 - i) z) (h3:l3=l2.take i ++ [x] ++ l2.drop (i + [x].length)) :
  l.take i ++ [x] ++ l.drop i=l3.take (i+1)++l.drop i++l3.drop (i+1+(l.drop i).length):=by
 have e1:l2.take i=l.take i:=by
  rw [h2,YH (by rw [Yf];omega),Yah,Ybl]
 have e0:l2.length=l.length+1:=by rw [h2,Yd,Yf,Ya2];omega
 have e2:l3.take (i+1)=l.take i ++ [x]:=by
  rw [h3,e1,YH (by rw [Yd,Yf];simp;omega),YJ (by rw [Yd,Yf];simp;omega)]
 have e3:l3.length=l.length+1:=by
  rw [h3,e1,Yd,Yd,Yf,Yt,e0];simp;omega
 have e4:l3.drop (i+1+(l.drop i).length) = []:=Ybb (by rw [e3,Yt];omega)
 rw [e2,e4,Y2]
theorem Zgq {α:Type} {l l4:List α} {i:Nat} {x:α} (hi:i<l.length) (h4:l4=l.take (i+1)++l.drop i):l.take i ++ [x] ++ l.drop i=l4.take i ++ [x] ++ l4.drop (i + [x].length):=by
 have e1:l4.take i=l.take i:=by
  rw [h4,YH (by rw [Yf];omega),Yah,Yaf ow]
 have e2:l4.drop (i + [x].length)=l.drop i:=by
  rw [h4,show i + [x].length=i+1 from rfl,List.drop_append_of_le_length (by rw [Yf];omega),Ybb (by rw [Yf];omega),Yao]
 rw [e1,e2]
def ZfO (x y:Int):Int:=if x<y then -1 else if y<x then 1 else 0
theorem Zgh {x y:Int} : ZfO x y<0 ↔ x<y:=by unfold ZfO;split <;> (try split) <;> omega
theorem Zks {x y:Int} : ZfO x y=0 ↔ x=y:=by unfold ZfO;split <;> (try split) <;> omega
theorem ZpL {x:Int} (h:0≤x∧x≤18446744073709551615):IntKind.wrap .u64 x=x:=ZhZ ⟨by simp [IntKind.min,IntKind.signed,IntKind.bits];omega,by simp [IntKind.max,IntKind.signed,IntKind.bits];omega⟩
theorem ZlC {i j:Nat} (h:i+j≤2000000):IntKind.wrap .i64 ((IntKind.wrap .u64 (IntKind.wrap .i64 ((i:Int)+(j:Int)))).fdiv (2 ^ min (1:Int).toNat (IntKind.bits .u64)))=(((i+j) / 2:Nat):Int):=by
 rw [ZN (x:=(i:Int)+(j:Int)) ow,ZpL ow,show (2:Int) ^ min (1:Int).toNat (IntKind.bits .u64)=2 by decide,YaJ _ (by decide),ZN ow]
 omega
def Zcc {α:Type} [Inhabited α] (κ:α→Int) (l:List α):Prop:=∀ a b,a<b→b<l.length→κ (Nn l a)<κ (Nn l b)
def lowK {α:Type} (κ:α→Int) (k:Int) (l:List α):Nat:=(l.takeWhile fun x=>decide (κ x<k)).length
def isK {α:Type} (κ:α→Int) (k:Int) (l:List α):Bool:=l.any fun x=>decide (κ x=k)
theorem ZfQ {α:Type} [Inhabited α] {κ:α→Int} {k:Int} : ∀ {l:List α} {i:Nat},i≤l.length→(∀ q,q<i→κ (Nn l q)<k)→(∀ q,i≤q→q<l.length→k≤κ (Nn l q))→lowK κ k l=i
 | [],i,hi,_,_=>by simp at hi;subst hi;rfl
 | x :: l,0,_,_,h2=>by
  have:=h2 0 (YO _) (by simp)
  rw [Zm (by simp)] at this
  unfold lowK
  rw [List.takeWhile_cons_of_neg (by simpa using this)];rfl
 | x :: l,i+1,hi,h1,h2=>by
  have hx:=h1 0 ow
  rw [Zm (by simp)] at hx
  have ih:=ZfQ (κ:=κ) (k:=k) (l:=l) (i:=i) (by simpa using hi) (fun q hq=>by
   have:=h1 (q+1) ow
   rw [Zm (by simp at hi ⊢;omega)] at this
   rw [Zm (by simp at hi;omega)];simpa using this) (fun q hq hq2=>by
   have:=h2 (q+1) ow (by simp;omega)
   rw [Zm (by simp;omega)] at this
   rw [Zm hq2];simpa using this)
  unfold lowK at ih ⊢
  rw [List.takeWhile_cons_of_pos (by simpa using hx),Yv,ih]
theorem Zno {α:Type} [Inhabited α] {κ:α→Int} {k:Int} {l:List α} {i:Nat} (hi:i≤l.length) (hs:Zcc κ l) (h1:∀ q,q<i→κ (Nn l q)<k) (h2:∀ q,i≤q→q<l.length→k≤κ (Nn l q)):isK κ k l=true ↔ i<l.length∧κ (Nn l i)=k:=by
 unfold isK
 rw [YaS]
 constructor
 ·rintro ⟨x,hx,hk⟩
  obtain ⟨q,hq,e⟩:=YL hx
  have hk':κ (Nn l q)=k:=by rw [Zm hq,e];simpa using hk
  have hiq:i≤q:=Nat.le_of_not_lt fun h=>by have:=h1 q h;omega
  rcases YV hiq with h | h
  ·have a1:=hs i q h hq
   have a2:=h2 i (YO _) ow
   omega
  ·subst h;exact ⟨hq,hk'⟩
 ·rintro ⟨h3,h4⟩
  exact ⟨_,Z5 h3,by simpa using h4⟩
theorem Zeg {α:Type} [Inhabited α] {κ:α→Int} {l:List α} (hs:Zcc κ l) {a b:Nat} (h:a≤b) (hb:b<l.length):κ (Nn l a)≤κ (Nn l b):=by
 rcases YV h with h | h
 ·exact Int.le_of_lt (hs a b h hb)
 ·subst h;exact Ya6 _
abbrev clF (n:Nat) (q:List Zy):PV:=.ref [.any,.any,.sl (ZpQ n) (Zmo q n),.any]
abbrev coF (n:Nat) (q:List Zy):PV:=.ref [clF n q,.sl (ZpQ n) (ZoU q n),.any,.any,.any]
theorem ZdQ {v:Value} {n:Nat} {q:List Zy} {last:List Int} : Zoj (clH v n q last) v (clF n q):=by
 intro w f y y' h hle hf hb
 obtain ⟨s,hk,f1,g1,e1,d1,_,⟨b,vs,k1,k2,k3,k4⟩,f2,g2,e2,d2,_,_,f3,g3,e3,d3,_,_,f4,g4,e4,d4,_,⟨xs,m1,m2,m3⟩,f5,g5,e5,d5,_,_,f6,g6,e6,d6,_,hfam,_⟩:=h
 have up4:∀ x,f4 x→f x:=fun x hx=>(e1 x).2 (.inr ((e2 x).2 (.inr ((e3 x).2 (.inr ((e4 x).2 (.inl hx)))))))
 have up6:∀ x,f6 x→f x:=fun x hx=>(e1 x).2 (.inr ((e2 x).2 (.inr ((e3 x).2 (.inr ((e4 x).2 (.inr ((e5 x).2 (.inr ((e6 x).2 (.inl hx)))))))))))
 have hb1:f b:=(e1 b).2 (.inl ((k3 b).2 rfl))
 refine ⟨b,0,vs.toList,k1,hf b hb1,hb b hb1,Zq.mk fun j u hj=>?_,?_⟩
 ·simp only [YP]
  simp [World.cell?,k2]
  simpa using hj
 ·generalize vs.toList=us at k4
  match us,k4 with
  | [u1,u2,u3,u4],k4=>
   refine ⟨⟨k4.1.1,tv⟩,⟨k4.2.1.1,tv⟩,⟨k4.2.2.1.1,?_⟩,⟨k4.2.2.2.1.1,tv⟩,tv⟩
   have e:u3=s.rv:=k4.2.2.1.2.1
   rw [e]
   obtain ⟨ad,cap,e8,h8,h9,h10⟩:=ZB m1
   rw [hk.rl] at e8 h8
   refine ⟨ad,cap,by rw [ZcP];exact e8,by rw [ZcP];exact h8,h9,?_⟩
   rcases h10 with h10 | ⟨b',rfl,h11,h12⟩
   ·exact .inl (YE (by rw [ZcP,← hk.rl];exact h10))
   ·have hb':f b':=up4 b' ((m3 b').2 h11)
    refine .inr ⟨b',0,xs,rfl,hf b' hb',hb b' hb',h12,?_⟩
    have e2:Zmo q n=(ZbR s.rs fun k=>Zay q (k:Int)).map (·.2):=by rw [Zne,hk.rl];rfl
    rw [e2]
    refine Zit (y:=y) (by rw [ZmH];exact m2) fun p hp=>?_
    obtain ⟨g,g1',g2'⟩:=ZdK (show stars w y ((ZbR s.rs fun k=>Zay q (k:Int)).map fun x=>RS.hp (ZdC n x)) f6 from hfam) (RS.hp (ZdC n p)) (YD.2 ⟨p,hp,rfl⟩)
    exact ZkJ w g y y' g2' hle (fun x hx=>hf x (up6 x (g1' x hx))) (fun x hx=>hb x (up6 x (g1' x hx)))
abbrev Zqj (a1 a2 a3 a4:Nat) (v:Value) (n:Nat) (q:List Zy) (av nv mv sv dv:Value) (ns:List Value) (last:List Int):List (Nat×RS):=[(a1,.pt (.val v) 177 [.pv (.is av),.pv (.is nv),.pv (.is mv),.pv (.is sv),.pv (.is dv)]),(a2,RS.hp (clH av n q last)),(a3,.ob (.val nv) (Zs 167 1 rV ns)),(a4,ZeZ (ZdC n) (ZbR ns fun k=>Zdi q n (k:Int)))]
theorem ZdP (n:Nat) (q:List Zy):FnP prog 91 [clF n q] (.int .i64 (n:Int)):=by
 refine FnP.mk func91 O ntmps91 O fun B a w F J hfr G=>Ya ?_
 refine rZ G (qI qZ) J [2,0] [0] fun G=>(Ya (Ya ?_))
 refine rZ G (qR rr (qf (Za6 underlying172 .t) r1 qz qZ)) J [4,2,0] [0] fun G=>?_
 refine Zc G O (fun hc0=>?_) (fun hc0=>?_)
 ·simp at hc0
 refine Yi (Za (Ya (rZ G (qR rr (qf (ZS .t) r1 qz (qf (oG 2 .t) r1 qz (qf (oR false 1 .t) r1 qz (qu YbF r1 (qO rr qZ)))))) J [2] [0] fun G=>Yg ?_)))
 refine Zt hfr G O O O (.int (by rw [ZcP]))
def inQ (n:Nat) (q:List Zy) (u:Int):List Int:=(ZeU n q u).filter fun y=>decide ((⟨u,y⟩:Zy) ∈ q)
def Ze6 (n:Nat) (q q0:List Zy) (x:Int):Prop:=ZeU n q x=ZeU n q0 x ∧ ∀ y ∈ ZeU n q x,inQ n q y=inQ n q0 y
instance (n:Nat) (q q0:List Zy) (x:Int):Decidable (Ze6 n q q0 x):=by unfold Ze6;infer_instance
theorem Ze6.refl (n:Nat) (q:List Zy) (x:Int):Ze6 n q q x:=⟨rfl,fun _ _=>rfl⟩
theorem Ze6.trans {n:Nat} {q q1 q0:List Zy} {x:Int} (h:Ze6 n q q1 x) (k:Ze6 n q1 q0 x):Ze6 n q q0 x:=⟨h.1.trans k.1,fun y hy=>(h.2 y hy).trans (k.2 y (by rw [← h.1];exact hy))⟩
def ZpO (u:Int) (q q':List Zy):Prop:=∀ a b,a≠u→((⟨a,b⟩:Zy) ∈ q ↔ (⟨a,b⟩:Zy) ∈ q')
theorem ZpO.symm {u:Int} {q q':List Zy} (h:ZpO u q q'):ZpO u q' q:=fun a b hab=>(h a b hab).symm
def Zp0 (n:Nat) (q0:List Zy) (ms:List (Int×List Int)):Prop:=∀ k,k<n→Nn ms k=(Zo1 n q0 (k:Int),inQ n q0 (k:Int))
def ZoG (es:List (GE Int Int)) (ms:List (Int×List Int)):Prop:=∀ a:Int,(gGet a es).getD 0=((ms.countP fun m=>decide (m.1=a):Nat):Int)
def Zqh (n:Nat) (q q0:List Zy) (D:List Int):Prop:=Up n D ∧ ∀ x,Zo0 n x→x ∉ D→Ze6 n q q0 x
def rMk (p:Int×Value):List PV:=[.int .i64 p.1,.is p.2]
structure CoS where
 av:Value
 nv:Value
 mv:Value
 sv:Value
 dv:Value
 ns:List Value
 ks:List Value
 ms:List (Int×List Int)
 es:List (GE Int Int)
 ck:Nat
 D:List Int
 last:List Int
def mkL (ks:List Value) (ms:List (Int×List Int)):List (Int×Value):=(List.range ks.length).map fun k=>((Nn ms k).1,Nn ks k)
theorem Zly (ks:List Value) (ms:List (Int×List Int)):(mkL ks ms).length=ks.length:=by unfold mkL;simp
theorem ZmK {ks:List Value} {ms:List (Int×List Int)} {v:Value} {m:Int×List Int} (hl:ms.length=ks.length):mkL (ks ++ [v]) (ms ++ [m])=mkL ks ms ++ [(m.1,v)]:=by
 unfold mkL
 rw [Yd,Yax,List.range_succ,Yap,List.map_singleton,Zbx,← hl,Zbx]
 congr 1
 refine List.map_congr_left fun k hk=>?_
 have:=Yaa.1 hk
 rw [Za1 this,Za1 ow]
abbrev ZoI (es:List (GE Int Int)) (ck:Nat):Value→HP:=ZbO (fun c:Int=>PV.int .i64 c) (fun _:Int=>True) (fun n:Int=>Value.int .i64 n) es ck
def Zok (n:Nat) (q:List Zy) (s:CoS) (v:Value):List RS:=[.pt (.val v) 177 [.pv (.is s.av),.pv (.is s.nv),.pv (.is s.mv),.pv (.is s.sv),.pv (.is s.dv)],RS.hp (clH s.av n q s.last),.ob (.val s.nv) (Zs 167 1 rV s.ns),.ob (.val s.mv) (Zs 179 2 rMk (mkL s.ks s.ms)),.ob (.val s.sv) (ZoI s.es s.ck),
 ZeZ (ZdC n) (ZbR s.ns fun k=>Zdi q n (k:Int)),ZeZ (ZdC n) (ZbR s.ks fun k=>(Nn s.ms k).2),RS.hp (ZhM s.dv n s.D)]
structure CoL (n:Nat) (q:List Zy) (s:CoS):Prop where
 hi:n≤4096
 inn:InN n q
 len:q.length≤1000000
 nl:s.ns.length=n
 kl:s.ks.length=n
 ml:s.ms.length=n
 up:Up n s.D
structure ZpC (n:Nat) (q q0:List Zy) (s:CoS):Prop extends CoL n q s where
 mrk:Zp0 n q0 s.ms
 sz:ZoG s.es s.ms
 dt:Zqh n q q0 s.D
def coH (v:Value) (n:Nat) (q q0:List Zy):HP:=.ex fun s:CoS=>.and (ZpC n q q0 s) (.star (Zok n q s v))
end Go.Proofs.YthfoojdlcjfmcaaGreatDoor
namespace Go.Proofs.YthfoojdlcjfmcaaGreatDoor
open Go Go.Gm Tryz
set_option linter.unusedVariables false
set_option linter.unusedSimpArgs false
set_option maxHeartbeats 4000000
set_option maxRecDepth 8000
theorem Sat.giveL {B:Zax} {E:En} {a:Act} {w:World} {F:Fp} {v:Value} {ho:HP} {p:PV} (h:Sat B E a w F) (n i:Nat) (hn:Go.Gm.look E.r n=some (RS.hp ho)) (hi:Go.Gm.look E.s i=some (.pv (.is v))) (hl:Zoj ho v p) :
  ∃ F',Sat B ⟨(i,.pv p) :: E.s,(n,RS.hp (HP.star [])) :: E.r⟩ a w F':=by
 have hle:∀ b,U (fun m=>if m=n then fun _=>False else F m) b→U F b:=fun b ⟨m,hm⟩=>⟨m,by
  by_cases e:m=n
  ·simp only [e,Yn] at hm
  ·simp only [e,Yk] at hm;exact hm⟩
 have hev:=Ev.less w hle
 refine ⟨fun m=>if m=n then fun _=>False else F m,⟨fun m k b hm hk=>?_,fun m b hm=>?_⟩,h.ev.trans hev,h.n,h.df,fun j s hj=>?_,fun m r hm=>?_,fun m b hm=>?_⟩
 ·by_cases e1:m=n
  ·simp only [e1,Yn] at hm
  ·by_cases e2:k=n
   ·simp only [e2,Yn] at hk
   ·simp only [e1,e2,Yk] at hm hk;exact h.wf.dis m k b hm hk
 ·by_cases e1:m=n
  ·simp only [e1,Yn] at hm
  ·simp only [e1,Yk] at hm;exact h.wf.bd m b hm
 ·rw [Zd] at hj
  split at hj
  ·rename_i e
   simp only [YT] at hj;subst hj;subst e
   have hv:Act.tau a i=v:=(h.s i _ hi).1
   show p.p (Act.tau a i) w _
   rw [hv]
   refine hl w (F n) (U F) _ (h.r n _ hn) hle (fun b hb hm=>?_) (fun b hb=>h.wf.bd n b hb)
   obtain ⟨m,hm⟩:=hm
   by_cases e2:m=n
   ·simp only [e2,Yn] at hm
   ·simp only [e2,Yk] at hm
    exact e2 (h.wf.dis m n b hm hb)
  ·exact SF.mono hev (fun _ _=>rfl) (h.s j s hj)
 ·rw [Zd] at hm
  split at hm
  ·rename_i e
   simp only [YT] at hm;subst hm;subst e
   intro b hb
   simp only [Yn] at hb
  ·rename_i e
   have e2:¬ m=n:=fun h=>e h.symm
   simp only [e2,Yk]
   exact RS.mono hev (fun _ _=>rfl) (fun _ _=>rfl) (h.r m r hm)
 ·by_cases e1:m=n
  ·simp only [e1,Yn] at hm
  ·simp only [e1,Yk] at hm
   obtain ⟨r,hr⟩:=h.em m b hm
   exact ⟨r,by rw [Zd,Yb (fun h=>e1 h.symm)];exact hr⟩
theorem Zj9 {l:List PV} : ∀ v w yy,(PV.ref l).p v w yy→v.oneCell' = true:=fun v _ _ ⟨_,_,_,e,_⟩=>by rw [e];rfl
def ZcA:PV:=⟨fun v w y=>∃ b,v = .map (some b)∧b<w.heap.size∧¬ y b∧w.heap[b]? = some (.map #[] 0),fun h ⟨b,e,h1,h2,h3⟩=>⟨b,e,Y0 h1 h.size,(h.block b h1 h2).2,(h.block b h1 h2).1.trans h3⟩⟩
theorem Zmd:∀ v w yy,(ZcA).p v w yy→v.oneCell' = true:=fun v _ _ ⟨_,e,_⟩=>by rw [e];rfl
theorem Zkf:∀ v w yy,(PV.ptr).p v w yy→v.oneCell' = true:=PV.ptr_one
abbrev ZoR:Value→HP:=ZbO (fun _:Unit=>PV.any) (fun _:Unit=>True) (fun _:Unit=>Value.nilIface) [] 0
theorem ZkG {v:Value} : Zoj (ZoR v) v ZcA:=fun w f y y' ⟨b,rs,e,hb,hg,_,hf⟩ hle hfy hbd=>by
 have hr:rs = []:=by
  cases rs with
  | nil=>rfl
  | cons r rs=>exact absurd hg id
 subst hr
 exact ⟨b,e,hbd b ((hf b).2 rfl),hfy b ((hf b).2 rfl),by simpa using hb⟩
def iterE (v:Value):HP:=⟨fun w f y=>∃ r b,v = .pointer (some ⟨r,0,none⟩)∧w.heap[r]? = some (.mapIter (some b) 0 #[] 0)∧(b<w.heap.size∧¬ y b∧w.heap[b]? = some (.map #[] 0)) ∧ ∀ x,f x ↔ x=r,
 fun h hf ⟨r,b,e,h1,⟨h2,h3,h4⟩,h5⟩=>⟨r,b,e,(hf r ((h5 r).2 rfl)).trans h1,⟨Y0 h2 h.size,(h.block b h2 h3).2,(h.block b h2 h3).1.trans h4⟩,h5⟩⟩
section
variable {P:Program} {d:Option Nat} {t ty:TypeId} {pos:String} {af:Array Edge} {g:Option (Nat×Bool)} {x:Operand} {ps:List (Nat×SF)} {kt et:TypeId} {itv:Value}
open Go.RowKit Go.ChangeMaps Go.MapKept
theorem Zmx {T e:TypeId} {p:PV} (hu:P.underlying T=some (.slice e)) (hx:Opd x ps (.pv p)):OpC P ⟨d,.makeInterface T x,ty,pos,af,g⟩ ⟨ps,[],.pv (.ifc T p),[]⟩:=
 OpC.pure fun a w y hp=>⟨.iface T (a.eval x),by simp [execOp,Instr.makeInterface,Yh hu],fun τ' _=>⟨_,rfl,hx a w y hp⟩⟩
theorem Zm7 {d':Nat} (n:Nat) (hu:P.underlying t=some (.map kt et)) (hx:Opd x ps (.pv ZcA)) :
  OpC P ⟨some d',.range t x,ty,pos,af,g⟩ ⟨ps,[],.same d',[(n,.ob (.slot d') iterE)]⟩:=fun a w F K Q hw hp hr ht=>by
 obtain ⟨b,e1,h1,h2,h3⟩:=hx a w (U F) hp
 have hrun:(execOp a.eval ⟨some d',.range t x,ty,pos,af,g⟩).run P w = .ok (.value (.pointer (some ⟨w.heap.size,0,none⟩))) (w.alloc (.mapIter (some b) 0 #[] 0)):=by
  simp [execOp,e1,run_range_map w t kt et b #[] 0 hu h3,Result.andThen]
 obtain ⟨g1,g2⟩:=ZaI hw n (.mapIter (some b) 0 #[] 0)
 simp only [Oper.wp,hrun,Oper.upon]
 refine ht _ _ _ g1 g2 ⟨by simp [upd],rfl⟩ ?_
 intro q hq
 simp only [Yl] at hq
 subst hq
 have hs:(w.alloc (.mapIter (some b) 0 #[] 0)).heap.size=w.heap.size+1:=by simp
 refine ⟨w.heap.size,b,by simp [Anc.v,upd],Yag w _,⟨by rw [hs];omega,?_,(YaL w _ h1).trans h3⟩,fun b=>by simp⟩
 rintro ⟨m,hm⟩
 by_cases e:m=n
 ·simp [e] at hm;omega
 ·simp [e] at hm;exact h2 ⟨m,hm⟩
theorem ZoB (n:Nat) (hx:Zal x ps (.val itv)) :
  OpC P ⟨d,.next x false,ty,pos,af,g⟩ ⟨ps,[(n,.ob (.val itv) iterE)],.pv (.eqv (.tuple #[.bool false])),[]⟩:=
 OpC.read fun act w F hp hr=>by
  obtain ⟨r,b,e1,h1,⟨h2,h3,h4⟩,h5⟩:=hr (n,.ob (.val itv) iterE) (by simp)
  have e1:itv = .pointer (some ⟨r,0,none⟩):=e1
  have ex:act.eval x = .pointer (some ⟨r,0,none⟩):=by rw [hx act w _ hp];exact e1
  rcases run_next_at (P:=P) w ty r b 0 0 #[] #[] 0 h1 h4 (by simp) (YO _) with ⟨h0,hrun⟩ | ⟨z,hz,_⟩
  ·exact ⟨.tuple #[.bool false],by simp [execOp,ex,hrun,Result.andThen],fun _ _=>rfl⟩
  ·exact absurd (mem_left hz).1 (by simp)
theorem ZnS (hx:Opd x ps (.pv (.eqv (.tuple #[.bool false])))):OpC P ⟨d,.extract x 0,ty,pos,af,g⟩ ⟨ps,[],.pv (.bool false),[]⟩:=
 OpC.pure fun a w yy hp=>by
  have e:a.eval x = .tuple #[.bool false]:=hx a w yy hp
  exact ⟨.bool false,by simp [execOp,Instr.extract,e],fun _ _=>rfl⟩
end
theorem Zjw {v:Value} {N:Nat} {ids:List Int} : Zoj (ZgJ v N ids) v (.ref [.sl Zcq ids,.any,.any]):=fun w f y y' ⟨x,_,h⟩ hle hf hb=>by
 obtain ⟨f1,g1,g2⟩:=ZdK h (.pt (.val v) 170 [.pv (.is x.1),.pv (.is x.2.1),.pv (.is x.2.2.1)]) (by simp [Zeb])
 obtain ⟨f2,m1,m2⟩:=ZdK h (.ob (.val x.1) (Zs 21 1 Zcq ids)) (by simp [Zeb])
 have hI:=Zf1 w f2 y y' m2 hle (fun b k=>hf b (m1 b k)) (fun b k=>hb b (m1 b k))
 obtain ⟨b,vs,k1,k2,k3,k4⟩:=g2
 have hb1:f1 b:=(k3 b).2 rfl
 refine ⟨b,0,vs.toList,k1,hf b (g1 b hb1),hb b (g1 b hb1),Zq.mk fun j u hj=>?_,?_⟩
 ·simp only [YP]
  simp [World.cell?,k2]
  simpa using hj
 ·generalize vs.toList=us at k4
  match us,k4 with
  | [u1,u2,u3],k4=>
   have e1:u1=x.1:=k4.1.2.1
   refine ⟨⟨k4.1.1,?_⟩,⟨k4.2.1.1,tv⟩,⟨k4.2.2.1.1,tv⟩,tv⟩
   rw [e1];exact hI
end Go.Proofs.YthfoojdlcjfmcaaGreatDoor
namespace Go.Proofs.YthfoojdlcjfmcaaGreatDoor
open Go Go.Gm Tryz
set_option linter.unusedVariables false
set_option linter.unusedSimpArgs false
set_option maxHeartbeats 4000000
set_option maxRecDepth 8000
theorem ZnH  : FnP prog 60 [] (.ptr):=by
 refine FnP.mk func60 O ntmps60 O fun B a w F J hfr G=>Ya ?_
 refine rZ G (qC qZ) J [0] [0] fun G=>Ya ?_
 refine Zb G (qf (Z7 (ek:=(fun _:Unit=>PV.any)) (ok:=(fun _:Unit=>True)) (kv:=(fun _:Unit=>Value.nilIface)) 101) trivial qz (qf (Z7 (ek:=(fun _:Unit=>PV.any)) (ok:=(fun _:Unit=>True)) (kv:=(fun _:Unit=>Value.nilIface)) 102) trivial qz (qf (Z7 (ek:=(fun _:Unit=>PV.any)) (ok:=(fun _:Unit=>True)) (kv:=(fun _:Unit=>Value.nilIface)) 103) trivial qz (qf (oB [(0,.tmp 1),(1,.tmp 2),(2,.tmp 3)] [.map none,.map none,.map none] [(0,1),(1,1),(2,1)] (.same O kr (.same O kr (.same O kr .nil)))) r3 qz (qf (oX 104 .t) r1 qz (qO rr qZ)))))) J [0] [104,103,102,101,0] (fun _=>rfl) (fun _=>rfl) fun τ a w F G=>?_
 try dsimp only [RS.sub,SF.sub,CF.sub,csub,Anc.sub,List.map,Zg,xL,xM,Nat.reduceAdd,xD,xE,xT,xU,xC,xN,zCF,rInt,Zcq,Zav] at G
 generalize τ 5=v5,τ 1=v1 at G
 generalize τ 2=v2,τ 3=v3 at G
 refine Za (Yg ?_)
 obtain ⟨b9,rfl⟩:=G.shape 104 rfl
 refine Zt hfr G O O O .ptr
theorem ZnJ  : FnP prog 35 [] (.ref [.is (.slice none 0 0),.is (.slice none 0 0),.ptr,ZcA,.is (.slice none 0 0),.is (.slice none 0 0)]):=by
 refine FnP.mk func35 O ntmps35 O fun B a w F J hfr G=>Ya ?_
 refine rZ G (qC qZ) J [0] [0] fun G=>Ya ?_
 refine ZaC 2 G kr (cG O (oP (ZnH) func60 Args.nil) trivial trivial (cG O (Z7 (ek:=(fun _:Unit=>PV.any)) (ok:=(fun _:Unit=>True)) (kv:=(fun _:Unit=>Value.nilIface)) 101) trivial trivial ZJ.nil)) kr (by rw [J];kernel_rfl) fun a w F G=>?_
 replace G:=G.sub
 obtain ⟨F,G⟩:=G.nM [2,1,0] [101,0]
 try dsimp only [RS.sub,SF.sub,CF.sub,csub,Anc.sub,List.map,Zg,xL,xM,Nat.reduceAdd,xD,xE,xT,xU,xC,xN,zCF,rInt,Zcq,Zav] at G
 generalize Act.tau a 2=v2 at G
 replace G:=G.turn 101 O (r':=RS.hp (ZoR v2)) (fun _ _ _ _ h=>h)
 obtain ⟨F,G⟩:=Sat.giveL (p:=ZcA) G 101 2 O O ZkG
 obtain ⟨F,G⟩:=G.nM [2,1,0] [0]
 refine ZaZ G kr (cG O (oB [(1,.tmp 1),(2,.tmp 2)] [.slice none 0 0,.slice none 0 0,.pointer none,.map none,.slice none 0 0,.slice none 0 0] [(0,2),(2,1),(3,1),(4,1),(5,1)] (.one O .t Zkf kr (.one O .t Zmd kr .nil))) r2 trivial (cG O (oX 102 .t) r1 trivial (cG O (oN .t) r1 trivial ZJ.nil))) kr (by rw [J];kernel_rfl) fun a w F G=>?_
 replace G:=G.sub
 obtain ⟨F,G⟩:=G.nM [0] [102,0]
 try dsimp only [RS.sub,SF.sub,CF.sub,csub,Anc.sub,List.map,Zg,xL,xM,Nat.reduceAdd,xD,xE,xT,xU,xC,xN,zCF,rInt,Zcq,Zav] at G
 generalize Act.tau a 4=v4 at G
 obtain ⟨F,G⟩:=G.giveRef 102 0 O O rfl
 obtain ⟨F,G⟩:=G.nM [0] [0]
 try dsimp only [Go.Gm.unCF] at G
 refine Za (Yg (Zt hfr G O O O .refl))
theorem Zoc (m:Int):FnP prog 63 [.int .i64 m] (.ptr):=by
 refine FnP.mk func63 O ntmps63 O fun B a w F J hfr G=>Ya ?_
 refine rZ G (qC qZ) J [2,0] [0] fun G=>Ya ?_
 refine Zb G (qf (oB [] [.int .i64 0,.int .i64 0,.int .i64 0,.slice none 0 0,.int .i64 0,.int .i64 0,.int .i64 0,.int .i64 0,.int .i64 0,.bool false,.pointer none,.pointer none] [(0,2),(2,7),(9,1),(10,1),(11,1)] .nil) trivial qz (qf (oX 101 .t) r1 qz (qO rr qZ))) J [3,2,0] [101,0] (fun _=>rfl) (fun _=>rfl) fun τ a w F G=>?_
 try dsimp only [RS.sub,SF.sub,CF.sub,csub,Anc.sub,List.map,Zg,xL,xM,Nat.reduceAdd,xD,xE,xT,xU,xC,xN,zCF,rInt,Zcq,Zav] at G
 generalize τ 5=v5 at G
 refine Za (Ya (rZ G (qR rr (qR rr (qR rr (qR rr (qf (Zr 101 .is (by rfl)) r1 r1 (qf (oF 10 101 .adr) r1 r1 (qf (Zat 101 .adr .t Zfl kr kr) r2 r1 (qf (Zr 101 .is (by rfl)) r1 r1 (qf (oF 11 101 .adr) r1 r1 (qf (Zat 101 .adr .t Zfl kr kr) r2 r1 qZ)))))))))) J [3,2,0] [101,0] fun G=>Ya ?_))
 refine Zb G (qR rr (qf (ZkR .t qi) r1 qz (qf (ZlI .t qi) r1 qz (qf (Z7 (ek:=(fun _:Unit=>PV.any)) (ok:=(fun _:Unit=>True)) (kv:=(fun _:Unit=>Value.nilIface)) 102) trivial qz (qR rr (qf (oB [(0,.tmp 16),(1,.tmp 17),(2,.tmp 18)] [.int .i64 0,.map none,.pointer none] [(0,1),(1,1),(2,1)] (.one O .t one_int kr (.same O kr (.one O .t Zfl kr .nil)))) r3 qz (qf (oX 103 .t) r1 qz (qO rr qZ)))))))) J [2] [103,102,101,0] (fun _=>rfl) (fun _=>rfl) fun τ a w F G=>?_
 try dsimp only [RS.sub,SF.sub,CF.sub,csub,Anc.sub,List.map,Zg,xL,xM,Nat.reduceAdd,xD,xE,xT,xU,xC,xN,zCF,rInt,Zcq,Zav] at G
 generalize τ 20=v20,τ 17=v17 at G
 refine Za (Yg ?_)
 obtain ⟨b9,rfl⟩:=G.shape 103 rfl
 refine Zt hfr G O O O .ptr
theorem Zm1 (w:World) (os:Array Obj):Go.RowKit.Below w.heap.size w (Go.Sort.grow w os):=⟨rfl,rfl,rfl,by simp [Go.Sort.grow],fun b hb=>by simp only [Go.Sort.grow];rw [Array.getElem?_append_left hb]⟩
def ZfU:Go.Shelf.Ren:=⟨fun | 6=>122 | 10=>143 | 11=>144 | 12=>145 | 13=>73 | 14=>146 | 24=>111 | 25=>112 | 26=>173 | 27=>174 | 28=>175 | 29=>176 | 30=>177 | 31=>178 | 32=>179 | 33=>180 | 34=>196 | 35=>197 | 36=>198 | 37=>199 | 38=>200 | 39=>214 | n=>n,fun | 20=>20 | 26=>200 | 35=>243 | 0=>0 | 37=>245 | 3=>3 | 41=>149 | 44=>249 | 49=>204 | 51=>136 | 4=>4 | 54=>267 | 53=>266 | 58=>114 | 5=>5 | 9=>9 | 60=>294 | 64=>236 | 66=>309 | 67=>189 | 17=>17 | 32=>240 | 33=>241 | 82=>363 | 12=>12 | 75=>356 | 76=>357 | 77=>358 | 78=>359 | 79=>360 | 80=>361 | n=>n,fun  | n=>n⟩
theorem Zko:LaysGg.n6 prog ZfU where
 mixed:=by kernel_rfl
 f6:=func122.trans (YZ some kr)
 f10:=func143.trans (YZ some kr)
 f11:=func144.trans (YZ some kr)
 f12:=func145.trans (YZ some kr)
 f13:=func73.trans (YZ some kr)
 f14:=func146.trans (YZ some kr)
 f24:=func111.trans (YZ some kr)
 f25:=func112.trans (YZ some kr)
 f26:=func173.trans (YZ some kr)
 f27:=func174.trans (YZ some kr)
 f28:=func175.trans (YZ some kr)
 f29:=func176.trans (YZ some kr)
 f30:=func177.trans (YZ some kr)
 f31:=func178.trans (YZ some kr)
 f32:=func179.trans (YZ some kr)
 f33:=func180.trans (YZ some kr)
 f34:=func196.trans (YZ some kr)
 f35:=func197.trans (YZ some kr)
 f36:=func198.trans (YZ some kr)
 f37:=func199.trans (YZ some kr)
 f38:=func200.trans (YZ some kr)
 f39:=func214.trans (YZ some kr)
 t0:=underlying0
 a0:=Tryz.isAgg0
 z0:=Tryz.sizeOf0
 v0:=Tryz.zeroValue0
 i0:=by kernel_rfl
 t3:=YbD
 a3:=Tryz.isAgg3
 z3:=Tryz.sizeOf3
 v3:=Tryz.zeroValue3
 i3:=by kernel_rfl
 t4:=underlying4
 a4:=Tryz.isAgg4
 z4:=Tryz.sizeOf4
 v4:=Tryz.zeroValue4
 i4:=by kernel_rfl
 t5:=underlying5
 a5:=Tryz.isAgg5
 z5:=Tryz.sizeOf5
 v5:=Tryz.zeroValue5
 i5:=by kernel_rfl
 t9:=underlying9
 a9:=Tryz.isAgg9
 z9:=Tryz.sizeOf9
 v9:=Tryz.zeroValue9
 i9:=by kernel_rfl
 t12:=underlying12
 a12:=Tryz.isAgg12
 z12:=Tryz.sizeOf12
 v12:=Tryz.zeroValue12
 i12:=by kernel_rfl
 t17:=underlying17
 a17:=Tryz.isAgg17
 z17:=Tryz.sizeOf17
 v17:=Tryz.zeroValue17
 i17:=by kernel_rfl
 t20:=underlying20
 a20:=Tryz.isAgg20
 z20:=Tryz.sizeOf20
 v20:=Tryz.zeroValue20
 i20:=by kernel_rfl
 t26:=underlying200
 a26:=Tryz.isAgg200
 z26:=Tryz.sizeOf200
 v26:=Tryz.zeroValue200
 i26:=by kernel_rfl
 t32:=underlying240
 a32:=Tryz.isAgg240
 z32:=Tryz.sizeOf240
 v32:=Tryz.zeroValue240
 i32:=by kernel_rfl
 t33:=underlying241
 a33:=Tryz.isAgg241
 z33:=Tryz.sizeOf241
 v33:=Tryz.zeroValue241
 i33:=by kernel_rfl
 t35:=underlying243
 a35:=Tryz.isAgg243
 z35:=Tryz.sizeOf243
 v35:=Tryz.zeroValue243
 i35:=by kernel_rfl
 t37:=underlying245
 a37:=Tryz.isAgg245
 z37:=Tryz.sizeOf245
 v37:=Tryz.zeroValue245
 i37:=by kernel_rfl
 t41:=YbG
 a41:=Tryz.isAgg149
 z41:=Tryz.sizeOf149
 v41:=Tryz.zeroValue149
 i41:=by kernel_rfl
 t44:=underlying249
 a44:=Tryz.isAgg249
 z44:=Tryz.sizeOf249
 v44:=Tryz.zeroValue249
 i44:=by kernel_rfl
 t49:=underlying204
 a49:=Tryz.isAgg204
 z49:=Tryz.sizeOf204
 v49:=Tryz.zeroValue204
 i49:=by kernel_rfl
 t51:=underlying136
 a51:=Tryz.isAgg136
 z51:=Tryz.sizeOf136
 v51:=Tryz.zeroValue136
 i51:=by kernel_rfl
 t53:=underlying266
 a53:=Tryz.isAgg266
 z53:=Tryz.sizeOf266
 v53:=Tryz.zeroValue266
 i53:=by kernel_rfl
 t54:=underlying267
 a54:=Tryz.isAgg267
 z54:=Tryz.sizeOf267
 v54:=Tryz.zeroValue267
 i54:=by kernel_rfl
 t58:=underlying114
 a58:=Tryz.isAgg114
 z58:=Tryz.sizeOf114
 v58:=Tryz.zeroValue114
 i58:=by kernel_rfl
 t60:=underlying294
 a60:=Tryz.isAgg294
 z60:=Tryz.sizeOf294
 v60:=Tryz.zeroValue294
 i60:=by kernel_rfl
 t64:=underlying236
 a64:=Tryz.isAgg236
 z64:=Tryz.sizeOf236
 v64:=Tryz.zeroValue236
 i64:=by kernel_rfl
 t66:=underlying309
 a66:=Tryz.isAgg309
 z66:=Tryz.sizeOf309
 v66:=Tryz.zeroValue309
 i66:=by kernel_rfl
 t67:=underlying189
 a67:=Tryz.isAgg189
 z67:=Tryz.sizeOf189
 v67:=Tryz.zeroValue189
 i67:=by kernel_rfl
 t75:=underlying356
 a75:=Tryz.isAgg356
 z75:=Tryz.sizeOf356
 v75:=Tryz.zeroValue356
 i75:=by kernel_rfl
 t76:=underlying357
 a76:=Tryz.isAgg357
 z76:=Tryz.sizeOf357
 v76:=Tryz.zeroValue357
 i76:=by kernel_rfl
 t77:=underlying358
 a77:=Tryz.isAgg358
 z77:=Tryz.sizeOf358
 v77:=Tryz.zeroValue358
 i77:=by kernel_rfl
 t78:=underlying359
 a78:=Tryz.isAgg359
 z78:=Tryz.sizeOf359
 v78:=Tryz.zeroValue359
 i78:=by kernel_rfl
 t79:=underlying360
 a79:=Tryz.isAgg360
 z79:=Tryz.sizeOf360
 v79:=Tryz.zeroValue360
 i79:=by kernel_rfl
 t80:=underlying361
 a80:=Tryz.isAgg361
 z80:=Tryz.sizeOf361
 v80:=Tryz.zeroValue361
 i80:=by kernel_rfl
 t82:=underlying363
 a82:=Tryz.isAgg363
 z82:=Tryz.sizeOf363
 v82:=Tryz.zeroValue363
 i82:=by kernel_rfl
theorem Zgy (u:Value):FnP prog 122 [.ifc 187 (.is (.slice none 0 0)),.clos 123 [.is u]] (.tup []):=fun w y vs hy hvs=>by
 match vs,hvs with
 | [a,c],hvs=>
  obtain ⟨⟨v,rfl,hv⟩,⟨caps,rfl,hc⟩,_⟩:=hvs
  have hv:v = .slice none 0 0:=hv.1
  subst hv
  obtain ⟨i,hi⟩:∃ i,prog.info? 187=some i:=Ya4.1 kr
  obtain ⟨ie,hie⟩:∃ i,prog.info? 131=some i:=Ya4.1 kr
  have hd:i.desc = .slice 131:=by
   have h:(prog.info? 187).map (·.desc)=some (.slice 131):=by kernel_rfl
   rw [hi] at h;simpa using h
  refine (Go.Proofs.Any.sort_Slice_tiny Zko 187 131 i ie hi hd kr hie 25 (fun _=>by kernel_rfl) none 0 0 (by decide) 164 (by
   rw [show Go.Lib.swapperK 0 ie 25=1 by simp [Go.Lib.swapperK]]
   kernel_rfl) (.func 123) #[] caps.toArray w).mono ?_
  rintro e w' ⟨rfl,os,rfl⟩
  exact ⟨_,rfl,⟨[],rfl,tv⟩,Zm1 w os⟩
theorem ZjH {m i:Nat} (h:i<(Z2 m).length):Nn (Z2 m) i=0:=by
 rw [Zm h]
 exact List.getElem_replicate _
theorem Zmz  : FnP prog 95 [.ref [.sl Zcq (Z2 16),.any,.any]] (.sl Zav []):=by
 refine FnP.mk func95 O ntmps95 O fun B a w F J hfr G=>?_
 have hz16:(Z2 16).length=16:=rfl
 refine Ya (rZ G (qC qZ) J [2,0] [0] fun G=>Ya ?_)
 refine rZ G (qC qZ) J [3,2,0] [0] fun G=>(Ya (Ya ?_))
 refine rZ G (qR rr (qf (Za6 underlying86 .t) r1 qz qZ)) J [7,3,2,0] [0] fun G=>?_
 refine Zc G O (fun hc0=>?_) (fun hc0=>?_)
 ·simp at hc0
 refine Yi (Za (Ya (Ya (rZ G (qR rr (qf (ZS .t) r1 qz (qf (oG 0 .t) r1 qz (qf (oR false 1 .t) r1 qz (qu underlying165 r1 (qJ qZ)))))) J [14,13,12,3,2] [0] fun G=>Yj ?_))))
 refine Zo (σ:=(Nat)) [2,3,12,13] [0] (fun s=>[(14,.pv (.int .i64 (s:Int)))]) (fun s=>[]) (fun s=>s≤(Z2 16).length∧(True)) (fun s=>(Z2 16).length - s) (0) G ⟨rfl,rfl,rfl,rfl,rfl,tv⟩ ⟨rfl,tv⟩ ⟨Yr _,tv⟩ ?_
 clear G;intro i a w F hC G
 try dsimp only at hC
 obtain ⟨F,G⟩:=G.nM [14,13,12,3,2] [0]
 try dsimp only at G
 obtain ⟨hi,hq⟩:=hC
 refine Ya (rZ G (qL r2) J [15,14,13,12,3,2] [0] fun G=>Ya ?_)
 refine Zc G O (fun hc1=>?_) (fun hc1=>?_)
 ·have hil:i<(Z2 16).length:=by simp at hc1;omega
  refine Yi (Za (Ya (Yj (Ya (Zf G (qR rr (qy 1 underlying165 r2 (qf (oR false 1 .t) r1 qz (qO rr (qO rr qZ))))) J [14,13,12,5,4,3,2] [0] O O fun a w F G=>?_)))))
  try simp only [Yc] at G
  refine Za (Ya (rZ G (qR rr (qf (o_neq .t qi) r1 qz qZ)) J [20,14,13,12,5,4,3,2] [0] fun G=>?_))
  refine Zc G O (fun hc2=>?_) (fun hc2=>?_)
  ·rw [ZjH hil] at hc2;simp at hc2
  refine Yi (Zk (Za (rZ G (qp r1 (qR rr qZ)) J [14,13,12,3,2] [0] fun G=>?_)))
  replace G:=G.ent (i:=14) (s':=.pv (.int .i64 ((i+1:Nat):Int))) O (.int (Zh ow))
  obtain ⟨F,G⟩:=G.nM [13,12,3,2,14] [0]
  exact ⟨(i+1),F,⟨by omega,tv⟩,G,by omega⟩
 have hil:i=(Z2 16).length:=by simp at hc1;omega
 refine YA (Zj (Zj (Zw (Za (Ya (rZ G (qR rr (qO rr qZ)) J [2] [0] fun G=>Yg ?_))))))
 refine Zt hfr G O O O (.trans .nilSl (.sl O))
theorem Zmf  : FnP prog 92 [.ref [.ref [.is (.slice none 0 0),.is (.slice none 0 0),.ptr,ZcA,.is (.slice none 0 0),.is (.slice none 0 0)],.ref [.sl Zcq (Z2 16),.any,.any],.any,.any,.any]] (.ref [.is (.slice none 0 0),.is (.slice none 0 0),.ptr,ZcA,.is (.slice none 0 0),.is (.slice none 0 0)]):=by
 refine FnP.mk func92 O ntmps92 O fun B a w F J hfr G=>Ya ?_
 refine rZ G (qC qZ) J [2,0] [0] fun G=>(Ya (Ya ?_))
 refine rZ G (qR rr (qf (Za6 underlying49 .t) r1 qz qZ)) J [4,2,0] [0] fun G=>?_
 refine Zc G O (fun hc0=>?_) (fun hc0=>?_)
 ·simp at hc0
 refine Yi (Za (Ya (rZ G (qR rr (qf (ZS .t) r1 qz (qf (oG 0 .t) r1 qz (qf (oR false 1 .t) r1 qz (qO rr qZ))))) J [2] [0] fun G=>Yg ?_)))
 refine Zt hfr G O O O .refl
theorem ZnL (p:Int):FnP prog 93 [.ref [.is (.slice none 0 0),.is (.slice none 0 0),.ptr,ZcA,.is (.slice none 0 0),.is (.slice none 0 0)],.int .i64 p] (.sl rInt []):=by
 refine FnP.mk func93 O ntmps93 O fun B a w F J hfr G=>Ya ?_
 refine rZ G (qC qZ) J [4,1,0] [0] fun G=>Ya ?_
 refine Zb G (qf (oH [.slice none 0 0] 101) trivial qz qZ) J [5,4,1,0] [101,0] (fun _=>rfl) (fun _=>rfl) fun τ a w F G=>?_
 try dsimp only [RS.sub,SF.sub,CF.sub,csub,Anc.sub,List.map,zCF,rInt,Zcq,Zav] at G
 generalize τ 5=v5 at G
 refine Za (Ya (Ya (rZ G (qR rr (qf (Za6 underlying83 .t) r1 qz qZ)) J [8,5,4,1,0] [101,0] fun G=>?_)))
 refine Zc G O (fun hc0=>?_) (fun hc0=>?_)
 ·simp at hc0
 refine Yi (Za (Ya (Ya (Zb G (qR rr (qf (ZS .t) r1 qz (qf (oG 3 .t) r1 qz (qf (oR false 1 .t) r1 qz (qf (Zm7 102 underlying123 .t) r1 qz qZ))))) J [14,5,4,1] [102,101,0] (fun _=>rfl) (fun _=>rfl) fun τ a w F G=>?_))))
 try dsimp only [RS.sub,SF.sub,CF.sub,csub,Anc.sub,List.map,xD,xE,xT,xU,ldSF,rInt,Zcq,Zav] at G
 generalize τ 14=v14 at G
 refine Za (Yj (Zo (σ:=Unit) [1,4,5,14] [0,101,102] (fun s=>[]) (fun s=>[]) (fun s=>True) (fun s=>0) (()) G ⟨rfl,rfl,rfl,rfl,tv⟩ ⟨rfl,rfl,rfl,tv⟩ trivial ?_))
 clear G;intro u9 a w F hC G
 try dsimp only at hC
 obtain ⟨F,G⟩:=G.nM [14,5,4,1] [102,101,0]
 try dsimp only at G
 refine Ya (rZ G (qf (ZoB 102 .is) r1 r1 (qf (ZnS .t) r1 qz qZ)) J [16,14,5,4,1] [102,101,0] fun G=>Ya ?_)
 refine Zc G O (fun hc1=>?_) (fun hc1=>?_)
 ·simp at hc1
 refine YA (Zj (Zj (Zw (Za (Ya (rZ G (qf (oL false 1 101 .is) r1 r1 (qf (Zmx underlying187 .t) r1 qz (qf (ZaV (Args.one .t)) r1 qz (qf (oP (Zgy v5) func122 (Args.two .t .t)) r2 qz qZ)))) J [5,4] [102,101,0] fun G=>Ya ?_))))))
 refine rZ G (qf (oL false 1 101 .is) r1 r1 (qO rr qZ)) J [4] [102,101,0] fun G=>Yg ?_
 refine Zt hfr G O O O (.trans .nilSl (.sl O))
def ZdB (p:Int):Int×Int:=if p=1 then (2,0) else if p=4 then (6,0) else if p=5 then (14,8) else (0,0)
def Zpj (b1 b2 b3 b4 b5:Bool):Int:=if b1=true then 0 else if ((b2 || b3) || b4)=true then 1 else if b5=true then 2 else 3
theorem Zoq (p:Int):FnP prog 94 [.int .i64 p] (.tup [.int .i64 (ZdB p).1,.int .i64 (ZdB p).2]):=by
 refine FnP.mk func94 O ntmps94 O fun B a w F J hfr G=>Ya ?_
 refine rZ G (qI (qI qZ)) J [3,2,0] [0] fun G=>(Ya (Ya ?_))
 refine rZ G (qR rr qZ) J [4,3,2] [0] fun G=>(Yj (Ya ?_))
 refine rZ G (qf (o_eql .t qi) r1 qz (qO rr qZ)) J [5,4,3,2] [0] fun G=>?_
 refine Zc G O (fun hc0=>?_) (fun hc0=>?_)
 ·have hp:p=1:=by simpa using hc0
  subst hp
  have hg1:(2:Int)=(ZdB 1).1:=rfl
  have hg2:(0:Int)=(ZdB 1).2:=rfl
  refine Ya (rZ G (qI (qI qZ)) J [3,2] [0] fun G=>(Yg (Zl (Ze ?_))))
  refine ZK hfr G O (.tmp O (.tmp O .nil)) (.two (.int hg1) (.int hg2))
 have hp1:¬ p=1:=by simpa using hc0
 refine Ya (rZ G (qf (o_eql .t qi) r1 qz (qO rr qZ)) J [7,4,3,2] [0] fun G=>?_)
 refine Zc G O (fun hc1=>?_) (fun hc1=>?_)
 ·have hp:p=4:=by simpa using hc1
  subst hp
  have hg1:(6:Int)=(ZdB 4).1:=rfl
  have hg2:(0:Int)=(ZdB 4).2:=rfl
  refine Ya (rZ G (qI (qI qZ)) J [3,2] [0] fun G=>(Yg (Zl (Ze ?_))))
  refine ZK hfr G O (.tmp O (.tmp O .nil)) (.two (.int hg1) (.int hg2))
 have hp2:¬ p=4:=by simpa using hc1
 refine Ya (rZ G (qf (o_eql .t qi) r1 qz (qO rr qZ)) J [9,3,2] [0] fun G=>?_)
 refine Zc G O (fun hc2=>?_) (fun hc2=>?_)
 ·have hp:p=5:=by simpa using hc2
  subst hp
  have hg1:(14:Int)=(ZdB 5).1:=rfl
  have hg2:(8:Int)=(ZdB 5).2:=rfl
  refine Ya (rZ G (qI (qI qZ)) J [3,2] [0] fun G=>(Yg (Zl (Ze ?_))))
  refine ZK hfr G O (.tmp O (.tmp O .nil)) (.two (.int hg1) (.int hg2))
 have hp3:¬ p=5:=by simpa using hc2
 have hg1:(0:Int)=(ZdB p).1:=by unfold ZdB;rw [Yb hp1,Yb hp2,Yb hp3]
 have hg2:(0:Int)=(ZdB p).2:=by unfold ZdB;rw [Yb hp1,Yb hp2,Yb hp3]
 refine Yi (Zk (Za (Ya (rZ G (qI (qI qZ)) J [3,2] [0] fun G=>Yg ?_))))
 refine ZK hfr G O (.tmp O (.tmp O .nil)) (.two (.int hg1) (.int hg2))
theorem Zpe (b0 b1 b2 b3 b4 b5:Bool):FnP prog 38 [.agg [.bool b0,.bool b1,.bool b2,.bool b3,.bool b4,.bool b5]] (.int .i64 (Zpj b1 b2 b3 b4 b5)):=by
 refine FnP.mk func38 O ntmps38 O fun B a w F J hfr G=>Ya ?_
 refine Zb G (qx 101 r1 (qI qZ)) J [2,1] [101,0] (fun _=>rfl) (fun _=>rfl) fun τ a w F G=>?_
 try dsimp only [RS.sub,SF.sub,CF.sub,csub,Anc.sub,List.map,zCF,rInt,Zcq,Zav] at G
 generalize τ 1=v1 at G
 refine Za (Ya (Yj (Ya (Zf G (qf (ZC (sz:=1) 101 YbE kr .is qi (by decide) (by decide) (by rfl)) r1 r1 (qa 101 r1 r1 (qO rr qZ))) J [3,2,1] [101,0] O O fun a w F G=>?_))))
 try simp only [Yc] at G
 refine Za (Zc G O (fun hc0=>?_) (fun hc0=>?_))
 ·have e1:b1=true:=hc0
  refine Ya (rZ G (qI qZ) J [2] [0] fun G=>(Yg (Zl (Ze ?_))))
  refine Zt hfr G O O O (.int (by unfold Zpj;first | (simp [e1,e2,e3];done) | (simp [e1,e2];done) | simp [e1]))
 have e1:b1=false:=hc0
 refine Ya (Zf G (qf (ZC (sz:=1) 101 YbE kr .is qi (by decide) (by decide) (by rfl)) r1 r1 (qa 101 r1 r1 (qR rr (qk O (fun h=>ZC (sz:=1) 101 YbE kr .is qi (by decide) (by decide) (by rfl)) r2 r1 (qw 101 O r2 r1 (qf (ZaM .t .t) r2 qz (qR rr (qk O (fun h=>ZC (sz:=1) 101 YbE kr .is qi (by decide) (by decide) (by rfl)) r2 r1 (qw 101 O r2 r1 (qf (ZaM .t .t) r2 qz (qO rr qZ))))))))))) J [6,2,1] [101,0] O O fun a w F G=>?_)
 try simp only [Yc] at G
 refine Za (Zc G O (fun hc1=>?_) (fun hc1=>?_))
 ·have e2:((b2 || b3) || b4)=true:=by simpa using hc1
  refine Ya (rZ G (qI qZ) J [2] [0] fun G=>(Yg (Zl (Ze ?_))))
  refine Zt hfr G O O O (.int (by unfold Zpj;first | (simp [e1,e2,e3];done) | (simp [e1,e2];done) | simp [e1]))
 have e2:((b2 || b3) || b4)=false:=by simpa using hc1
 refine Ya (Zf G (qf (ZC (sz:=1) 101 YbE kr .is qi (by decide) (by decide) (by rfl)) r1 r1 (qa 101 r1 r1 (qO rr qZ))) J [17,2] [0] O O fun a w F G=>?_)
 try simp only [Yc] at G
 refine Za (Zc G O (fun hc2=>?_) (fun hc2=>?_))
 ·have e3:b5=true:=hc2
  refine Ya (rZ G (qI qZ) J [2] [0] fun G=>(Yg (Zl (Ze ?_))))
  refine Zt hfr G O O O (.int (by unfold Zpj;first | (simp [e1,e2,e3];done) | (simp [e1,e2];done) | simp [e1]))
 have e3:b5=false:=hc2
 refine Yi (Zk (Za (Ya (rZ G (qI qZ) J [2] [0] fun G=>Yg ?_))))
 refine Zt hfr G O O O (.int (by unfold Zpj;first | (simp [e1,e2,e3];done) | (simp [e1,e2];done) | simp [e1]))
theorem Zpm (p:Int):FnP prog 64 [.ref [.ref [.is (.slice none 0 0),.is (.slice none 0 0),.ptr,ZcA,.is (.slice none 0 0),.is (.slice none 0 0)],.ref [.sl Zcq (Z2 16),.any,.any],.any,.any,.any],.int .i64 p] (.tup [.agg [.int .i64 0,.is (.slice none 0 0),.int .i64 0,.int .i64 0,.int .i64 0,.int .i64 0,.int .i64 0],.bool false]):=by
 refine FnP.mk func64 O ntmps64 O fun B a w F J hfr G=>Ya ?_
 refine Zb G (qf (oH [.int .i64 0,.slice none 0 0,.int .i64 0,.int .i64 0,.int .i64 0,.int .i64 0,.int .i64 0] 101) trivial qz qB) J [5,4,1,0] [101,0] (fun _=>rfl) (fun _=>rfl) fun τ a w F G=>?_
 try dsimp only [RS.sub,SF.sub,CF.sub,csub,Anc.sub,List.map,zCF,rInt,Zcq,Zav] at G
 generalize τ 4=v4 at G
 refine Za (Ya (Ya (rZ G (qR rr (qf (o_eql .t qi) r1 qz (qR rr (qm O O O O (qk O (fun h=>o_eql (.w h) qi) r2 qz (qf (ZaM .t .t) r2 qz qZ)))))) J [22,5,4,1,0] [101,0] fun G=>?_)))
 refine Zc G O (fun hc0=>?_) (fun hc0=>?_)
 ·refine Ya (rZ G (qR rr (qf (oP (Zmf) func92 (Args.one .t)) r1 qz (qR rr (qf (oP (ZnL p) func93 (Args.two .t .t)) r2 qz (qO rr qZ))))) J [6,5,4,1,0] [101,0] fun G=>(Ya (Ya ?_)))
  refine rZ G (qR rr (qu underlying187 r1 (qf (o_eql .t qi) r1 qz qZ))) J [29,6,5,4,1,0] [101,0] fun G=>?_
  refine Zc G O (fun hc1=>?_) (fun hc1=>?_)
  ·refine Ya (rZ G (qf (oB [] [.int .i64 0,.slice none 0 0,.int .i64 0,.int .i64 0,.int .i64 0,.int .i64 0,.int .i64 0] [(0,1),(1,1),(2,5)] .nil) trivial qz (qs 7 101 r2 r1 qB)) J [6,5,4,1,0] [101,0] fun G=>(Yg (Ze (Ze ?_))))
   refine ZK hfr G O (.cl 101 true 7 O O (.tmp O .nil)) (.two (.aggU O O) (.bool (by first | rfl | simp)))
  simp at hc1
 refine Yi (Za (Ya (Zb G (qf (oH [.int .i64 0,.slice none 0 0,.int .i64 0,.int .i64 0,.int .i64 0,.int .i64 0,.int .i64 0] 102) trivial qz qZ) J [7,5,4,1,0] [102,101,0] (fun _=>rfl) (fun _=>rfl) fun τ a w F G=>?_)))
 try dsimp only [RS.sub,SF.sub,CF.sub,csub,Anc.sub,List.map,zCF,rInt,Zcq,Zav] at G
 generalize τ 7=v7 at G
 refine Za (Ya (rZ G qB J [8,7,5,4,1,0] [102,101,0] fun G=>(Ya (Ya ?_))))
 refine rZ G (qR rr (qf (oP (Zoq p) func94 (Args.one .t)) r1 qz (qR rr (qf (Zi .t O) r1 qz (qf (Zi .t O) r1 qz (qO rr (qO rr qZ))))))) J [9,8,7,5,4,1,0] [102,101,0] fun G=>Ya ?_
 refine rZ G (qR rr (qf (Za6 underlying49 .t) r1 qz (qR rr (qm O O O O (qk O (fun h=>o_eql (.w h) qi) r2 qz (qf (ZaM .t .t) r2 qz qZ)))))) J [46,8,7,5,4,1,0] [102,101,0] fun G=>?_
 refine Zc G O (fun hc2=>?_) (fun hc2=>?_)
 ·refine Ya (rZ G (qe 7 102 r1 r1 (qR rr (qs 7 101 r2 r1 (qO rr qZ)))) J [8,7,5,4,1,0] [102,101,0] fun G=>(Yg (Ze ?_)))
  refine ZK hfr G O (.cl 101 true 7 O O (.tmp O .nil)) (.two (.aggU O O) (.bool (by first | rfl | simp)))
 refine Yi (Za (Ya (Ya (rZ G (qR rr (qf (ZS .t) r1 qz (qf (oG 1 .t) r1 qz (qf (oR false 1 .t) r1 qz (qf (oP (Zmz) func95 (Args.one .t)) r1 qz (qu underlying40 r1 (qJ qZ))))))) J [55,54,53,8,7,5,4,1,0] [102,101,0] fun G=>Yj ?_))))
 refine Zo (σ:=(Nat)) [0,1,4,5,7,8,53,54] [0,101,102] (fun s=>[(55,.pv (.int .i64 (s:Int)))]) (fun s=>[]) (fun s=>s≤([]:List Zy).length∧(True)) (fun s=>([]:List Zy).length - s) (0) G ⟨rfl,rfl,rfl,rfl,rfl,rfl,rfl,rfl,rfl,tv⟩ ⟨rfl,rfl,rfl,tv⟩ ⟨Yr _,tv⟩ ?_
 clear G;intro i a w F hC G
 try dsimp only at hC
 obtain ⟨F,G⟩:=G.nM [55,54,53,8,7,5,4,1,0] [102,101,0]
 try dsimp only at G
 obtain ⟨hi,hq⟩:=hC
 have h00:([]:List Zy).length=0:=rfl
 refine Ya (rZ G (qL r2) J [56,55,54,53,8,7,5,4,1,0] [102,101,0] fun G=>Ya ?_)
 refine Zc G O (fun hc3=>?_) (fun hc3=>?_)
 ·have hil:i<([]:List Zy).length:=by simp at hc3;omega
  simp at hil
 have hil:i=([]:List Zy).length:=by simp at hc3;omega
 refine YA (Zj (Zj (Zw (Za (Ya (rZ G (qe 7 102 r1 r1 (qR rr (qs 7 101 r2 r1 (qO rr qZ)))) J [5,4] [102,101,0] fun G=>Yg ?_))))))
 refine ZK hfr G O (.cl 101 true 7 O O (.tmp O .nil)) (.two (.aggU O O) (.bool (by first | rfl | simp)))
theorem ZfD (p:Int):FnP prog 37 [.ref [.ref [.is (.slice none 0 0),.is (.slice none 0 0),.ptr,ZcA,.is (.slice none 0 0),.is (.slice none 0 0)],.ref [.sl Zcq (Z2 16),.any,.any],.any,.any,.any],.int .i64 p] (.bool false):=by
 refine FnP.mk func37 O ntmps37 O fun B a w F J hfr G=>Ya ?_
 refine rZ G qB J [4,1,0] [0] fun G=>Ya ?_
 refine Zb G (qR rr (qR rr (qf (oP (Zpm p) func64 (Args.two .t .t)) r2 qz (qR rr (qf (Zi .t O) r1 qz (qf (Zi .t O) r1 qz (qf (oH [.int .i64 0,.slice none 0 0,.int .i64 0,.int .i64 0,.int .i64 0,.int .i64 0,.int .i64 0] 101) trivial qz (qf (oA 7 101 .same (.conv .t .agg)) r2 r1 (qO rr qZ))))))))) J [6,4] [101,0] (fun _=>rfl) (fun _=>rfl) fun τ a w F G=>?_
 try dsimp only [RS.sub,SF.sub,CF.sub,csub,Anc.sub,List.map,Zg,xL,xM,Nat.reduceAdd,xD,xE,xT,xU,xC,xN,zCF,rInt,Zcq,Zav] at G
 generalize τ 5=v5 at G
 refine Za (Ya (rZ G (qR rr (qO rr qZ)) J [4] [101,0] fun G=>Yg ?_))
 refine Zt hfr G O O O .refl
theorem ZjG  : FnP prog 15 [.ref [.ref [.is (.slice none 0 0),.is (.slice none 0 0),.ptr,ZcA,.is (.slice none 0 0),.is (.slice none 0 0)],.ref [.sl Zcq (Z2 16),.any,.any],.any,.any,.any]] (.agg [.bool false,.bool false,.bool false,.bool false,.bool false,.bool false,.int .i64 3]):=by
 refine FnP.mk func15 O ntmps15 O fun B a w F J hfr G=>Ya ?_
 refine Zb G (qf (oH [.bool false,.bool false,.bool false,.bool false,.bool false,.bool false,.int .i64 0] 101) trivial qz qZ) J [2,0] [101,0] (fun _=>rfl) (fun _=>rfl) fun τ a w F G=>?_
 try dsimp only [RS.sub,SF.sub,CF.sub,csub,Anc.sub,List.map,zCF,rInt,Zcq,Zav] at G
 generalize τ 2=v2 at G
 refine Za (Ya (Zb G (qf (oH [.bool false,.bool false,.bool false,.bool false,.bool false,.bool false,.int .i64 0] 102) trivial qz qZ) J [3,2,0] [102,101,0] (fun _=>rfl) (fun _=>rfl) fun τ a w F G=>?_))
 try dsimp only [RS.sub,SF.sub,CF.sub,csub,Anc.sub,List.map,zCF,rInt,Zcq,Zav] at G
 generalize τ 3=v3 at G
 refine Za (Ya (Ya (rZ G (qJ qZ) J [5,3,2,0] [102,101,0] fun G=>Yj ?_)))
 refine Zo (σ:=Nat) [0,2,3] [0,101] (fun s=>[(5,.pv (.int .i64 (s:Int)))]) (fun s=>[(102,.pt (.val v3) 59 [.pv (.bool false),.pv (.bool false),.pv (.bool false),.pv (.bool false),.pv (.bool false),.pv (.bool false),.pv (.int .i64 0)])]) (fun s=>s≤6) (fun s=>6 - s) (0) G ⟨rfl,rfl,rfl,rfl,tv⟩ ⟨rfl,rfl,rfl,tv⟩ (Yr _) ?_
 clear G;intro p a w F hC G
 try dsimp only at hC
 obtain ⟨F,G⟩:=G.nM [5,3,2,0] [102,101,0]
 try dsimp only at G
 have hp6:p≤6:=hC
 refine Ya (rZ G (qf (Zcz .t qi) r1 qz qZ) J [6,5,3,2,0] [102,101,0] fun G=>Ya ?_)
 refine Zc G O (fun hc0=>?_) (fun hc0=>?_)
 ·have hlt6:p<6:=by have h9:=Yak hc0;omega
  refine Yi (Za (Ya (Yj (Ya (rZ G (qR rr (qO rr qZ)) J [5,4,3,2,0] [102,101,0] fun G=>?_)))))
  by_cases hfk:p=0
  ·subst hfk
   refine Zf G (qR rr (qR rr (qR rr (qf (oP (ZfD ((0:Nat):Int)) func37 (Args.two .t .t)) r2 qz (qg 0 102 r1 r1 (qf (ZC (sz:=1) 102 YbE kr .adr (.conv .t (.int O)) (by decide) (by decide) (by rfl)) r2 r1 (qf (Zat 102 .adr .t Zbq kr kr) r2 r1 qZ))))))) J [5,3,2,0] [102,101,0] O O fun a w F G=>?_
   try simp only [Yc] at G
   refine Zk (Za (rZ G (qp r1 (qR rr qZ)) J [5,3,2,0] [102,101,0] fun G=>?_))
   replace G:=G.ent (i:=5) (s':=.pv (.int .i64 ((0+1:Nat):Int))) O (.int O)
   obtain ⟨F,G⟩:=G.nM [3,2,0,5] [101,0,102]
   exact ⟨(0+1),F,(by decide),G,(by decide)⟩
  have hf0:=hfk
  clear hfk
  by_cases hfk:p=1
  ·subst hfk
   refine Zf G (qR rr (qR rr (qR rr (qf (oP (ZfD ((1:Nat):Int)) func37 (Args.two .t .t)) r2 qz (qg 0 102 r1 r1 (qf (ZC (sz:=1) 102 YbE kr .adr (.conv .t (.int O)) (by decide) (by decide) (by rfl)) r2 r1 (qf (Zat 102 .adr .t Zbq kr kr) r2 r1 qZ))))))) J [5,3,2,0] [102,101,0] O O fun a w F G=>?_
   try simp only [Yc] at G
   refine Zk (Za (rZ G (qp r1 (qR rr qZ)) J [5,3,2,0] [102,101,0] fun G=>?_))
   replace G:=G.ent (i:=5) (s':=.pv (.int .i64 ((1+1:Nat):Int))) O (.int O)
   obtain ⟨F,G⟩:=G.nM [3,2,0,5] [101,0,102]
   exact ⟨(1+1),F,(by decide),G,(by decide)⟩
  have hf1:=hfk
  clear hfk
  by_cases hfk:p=2
  ·subst hfk
   refine Zf G (qR rr (qR rr (qR rr (qf (oP (ZfD ((2:Nat):Int)) func37 (Args.two .t .t)) r2 qz (qg 0 102 r1 r1 (qf (ZC (sz:=1) 102 YbE kr .adr (.conv .t (.int O)) (by decide) (by decide) (by rfl)) r2 r1 (qf (Zat 102 .adr .t Zbq kr kr) r2 r1 qZ))))))) J [5,3,2,0] [102,101,0] O O fun a w F G=>?_
   try simp only [Yc] at G
   refine Zk (Za (rZ G (qp r1 (qR rr qZ)) J [5,3,2,0] [102,101,0] fun G=>?_))
   replace G:=G.ent (i:=5) (s':=.pv (.int .i64 ((2+1:Nat):Int))) O (.int O)
   obtain ⟨F,G⟩:=G.nM [3,2,0,5] [101,0,102]
   exact ⟨(2+1),F,(by decide),G,(by decide)⟩
  have hf2:=hfk
  clear hfk
  by_cases hfk:p=3
  ·subst hfk
   refine Zf G (qR rr (qR rr (qR rr (qf (oP (ZfD ((3:Nat):Int)) func37 (Args.two .t .t)) r2 qz (qg 0 102 r1 r1 (qf (ZC (sz:=1) 102 YbE kr .adr (.conv .t (.int O)) (by decide) (by decide) (by rfl)) r2 r1 (qf (Zat 102 .adr .t Zbq kr kr) r2 r1 qZ))))))) J [5,3,2,0] [102,101,0] O O fun a w F G=>?_
   try simp only [Yc] at G
   refine Zk (Za (rZ G (qp r1 (qR rr qZ)) J [5,3,2,0] [102,101,0] fun G=>?_))
   replace G:=G.ent (i:=5) (s':=.pv (.int .i64 ((3+1:Nat):Int))) O (.int O)
   obtain ⟨F,G⟩:=G.nM [3,2,0,5] [101,0,102]
   exact ⟨(3+1),F,(by decide),G,(by decide)⟩
  have hf3:=hfk
  clear hfk
  by_cases hfk:p=4
  ·subst hfk
   refine Zf G (qR rr (qR rr (qR rr (qf (oP (ZfD ((4:Nat):Int)) func37 (Args.two .t .t)) r2 qz (qg 0 102 r1 r1 (qf (ZC (sz:=1) 102 YbE kr .adr (.conv .t (.int O)) (by decide) (by decide) (by rfl)) r2 r1 (qf (Zat 102 .adr .t Zbq kr kr) r2 r1 qZ))))))) J [5,3,2,0] [102,101,0] O O fun a w F G=>?_
   try simp only [Yc] at G
   refine Zk (Za (rZ G (qp r1 (qR rr qZ)) J [5,3,2,0] [102,101,0] fun G=>?_))
   replace G:=G.ent (i:=5) (s':=.pv (.int .i64 ((4+1:Nat):Int))) O (.int O)
   obtain ⟨F,G⟩:=G.nM [3,2,0,5] [101,0,102]
   exact ⟨(4+1),F,(by decide),G,(by decide)⟩
  have hp5:p=5:=by omega
  subst hp5
  clear hfk hp6 hlt6
  refine Zf G (qR rr (qR rr (qR rr (qf (oP (ZfD ((5:Nat):Int)) func37 (Args.two .t .t)) r2 qz (qg 0 102 r1 r1 (qf (ZC (sz:=1) 102 YbE kr .adr (.conv .t (.int O)) (by decide) (by decide) (by rfl)) r2 r1 (qf (Zat 102 .adr .t Zbq kr kr) r2 r1 qZ))))))) J [5,3,2,0] [102,101,0] O O fun a w F G=>?_
  try simp only [Yc] at G
  refine Zk (Za (rZ G (qp r1 (qR rr qZ)) J [5,3,2,0] [102,101,0] fun G=>?_))
  replace G:=G.ent (i:=5) (s':=.pv (.int .i64 ((5+1:Nat):Int))) O (.int O)
  obtain ⟨F,G⟩:=G.nM [3,2,0,5] [101,0,102]
  exact ⟨(5+1),F,(by decide),G,(by decide)⟩
 refine YA (Zj (Zj (Zw (Za (Ya (rZ G (qg 0 102 r1 r1 (qf (oL true 6 102 .adr) r1 r1 (qf (oP (Zpe false false false false false false) func38 (Args.one (.pagg .t))) r1 qz (qg 6 102 r1 r1 (qf (Zat 102 .adr .t one_int kr kr) r2 r1 qZ))))) J [3,2] [102,101,0] fun G=>Ya ?_))))))
 refine rZ G (qe 7 102 r1 r1 (qs 7 101 r2 r1 qZ)) J [2] [102,101,0] fun G=>Yg ?_
 refine ZK hfr G O (.cl 101 true 7 O O .nil) (.one (.aggU O O))
theorem Zof {P:Program} {o:Oper} {i j:Nat} {ps:List (Nat×SF)} {pr qr:List (Nat×RS)} {p:Value→PV} {cs0:List CF} {cs:Value→List CF} (hd:(o.dst == some j)=false) (hcs:∀ τ w y vs,CFs τ w y cs0 vs→CFs τ w y (cs (τ j)) vs) (h:∀ z,Go.Gm.OpC P o ⟨(i,.agg (cs z)) :: ps,pr,.pv (p z),qr⟩) :
  Go.Gm.OpC P o ⟨(i,.agg cs0) :: ps,pr,.fn j p,qr⟩:=fun a w F K Q hw hp hr ht=>by
 obtain ⟨vs,e1,h1⟩:=hp (i,.agg cs0) (by simp)
 refine h (Act.tau a j) a w F K Q hw (fun x hx=>?_) hr (fun v w' F' g1 g2 g3 g4=>ht v w' F' g1 g2 ?_ g4)
 ·rcases Yo.1 hx with rfl | hx
  ·exact ⟨vs,e1,hcs _ _ _ _ h1⟩
  ·exact hp x (by simp [hx])
 ·show (p (upd (Act.tau a) o.dst v j)).p v w' (U F')
  rw [ZkW hd];exact g3
theorem ZlR {p:PV} {j:Nat} : ∀ (τ:Tau) (w:World) (y:Ys) (vs:List Value),CFs τ w y [.pv p,.same j] vs→CFs τ w y [.pv p,.pv (.is (τ j))] vs:=fun τ w y vs h=>by
 match vs,h with
 | [a,b],h=>exact h
def msN (i:Nat):List (Int×List Int):=(List.range i).map fun k:Nat=>((k:Int),[])
theorem Zhp (i:Nat):(msN i).length=i:=by unfold msN;simp
theorem Zin (i:Nat):msN (i+1)=msN i ++ [((i:Int),[])]:=by unfold msN;rw [List.range_succ,Yap];rfl
theorem Zkd {i k:Nat} (h:k<i):Nn (msN i) k=((k:Int),[]):=by rw [Zm (by rw [Zhp];exact h)];simp [msN]
theorem Zo9 (i j:Nat) (h:i≤j):(msN i).countP (fun m=>decide (m.1=(j:Int)))=0:=by
 rw [List.countP_eq_zero]
 intro m hm
 unfold msN at hm
 obtain ⟨k,hk,rfl⟩:=YD.1 hm
 have:=Yaa.1 hk
 simp;omega
theorem ZoG.new {es:List (GE Int Int)} {ck i:Nat} (h:ZoG es (msN i)):ZoG (gPut (i:Int) 1 (es,ck)).1 (msN (i+1)):=fun a=>by
 rw [ZfN,Zin,List.countP_append]
 by_cases e:a=(i:Int)
 ·subst e;rw [Ye rfl,Zo9 i i (YO _)];simp
 ·have e':¬ (i:Int)=a:=fun k=>e k.symm
  rw [Yb e,h a];simp [e']
theorem Zmy {x u:Int} : ZjL [] x u ↔ x=u:=by
 unfold ZjL
 rw [Zfd];simp
theorem Zj8 {n k:Nat} (h:k<n):ZeU n [] (k:Int) = [(k:Int)]:=by
 refine Zfw (ZlU n [] _).1 (List.pairwise_singleton _ _) fun x=>?_
 rw [Zlz,Zmy,Yl]
 exact ⟨fun h=>h.2,fun e=>⟨by subst e;exact ⟨by omega,by omega⟩,e⟩⟩
theorem Zo7 {n:Nat} : Zp0 n [] (msN n):=fun k hk=>by
 rw [Zkd hk]
 unfold Zo1 inQ
 rw [Zj8 hk]
 simp [Zm]
theorem ZpC.new {n:Nat} (hn:n≤4096) {s:CoS} (h1:s.ns.length=n) (h2:s.ks.length=n) (h3:s.ms=msN n) (h4:ZoG s.es s.ms) (h5:s.D = []):ZpC n [] [] s:=
 ⟨⟨hn,fun p hp=>(by cases hp),Yr _,h1,h2,by rw [h3,Zhp],by rw [h5];exact Zng⟩,by rw [h3];exact Zo7,h4,by rw [h5];exact ⟨Zng,fun x _ _=>Ze6.refl _ _ _⟩⟩
theorem Zon (room:Int):FnG prog 62 1 [.int .i64 room] [gH ZhQ Zh1] (PV.ptr) (fun v=>[coH v (roomN room) [] []]):=by
 refine FnG.mk func62 O ntmps62 O kr fun B F0 a w F J hG G=>Ya ?_
 refine rZ G (qC qZ) J [2,0] [1,0] fun G=>Ya ?_
 replace G:=G.dupG 1 3 O rfl
 refine Zb G (qR rr (qf (ZaT 3 (Zpa room) func90 O kr (Args.one .t) PV.ptr_one) r1 r1 (qf (Z7 (ek:=(fun c:Int=>PV.int .i64 c)) (ok:=(fun _:Int=>True)) (kv:=(fun n:Int=>Value.int .i64 n)) 101) trivial qz (qf (oB [(0,.tmp 6),(3,.tmp 7)] [.pointer none,.slice none 0 0,.slice none 0 0,.map none,.pointer none] [(0,1),(1,1),(2,1),(3,1),(4,1)] (.same O kr (.same O kr .nil))) r2 qz (qf (oX 102 .t) r1 qz (qO rr qZ)))))) J [3,2] [102,101,3,1,0] (fun _=>rfl) (fun _=>rfl) fun τ a w F G=>?_
 try dsimp only [RS.sub,SF.sub,CF.sub,csub,Anc.sub,List.map,Zg,xL,xM,Nat.reduceAdd,xD,xE,xT,xU,xC,xN,zCF,rV,rMk,ZoI,rInt] at G
 generalize τ 9=v9,τ 6=v6,τ 7=v7 at G
 replace G:=G.turn 3 O (r':=RS.hp (clH v6 (roomN room) [] [])) (fun _ _ _ _ h=>h)
 refine Za (Ya (Ya (Zf G (qR rr (qf (Zr 102 .is (by rfl)) r1 r1 (qf (oF 0 102 .adr) r1 r1 (qa 102 r1 r1 (qf (OpC.lend 3 [13] ZdQ (oP (ZdP (roomN room) []) func91 (Args.one .t)) ⟨rfl,tv⟩ (.pv (fun _ _ _ _ h=>h)) trivial (by rfl)) r1 r1 (qJ qZ)))))) J [15,14,3,2] [102,101,3,1,0] O O fun a w F G=>?_)))
 replace G:=G.fresh 50 rfl
 replace G:=G.turn 50 O (Zbm (T:=167) (sz:=1) (R:=rV))
 replace G:=G.fresh 51 rfl
 replace G:=G.turn 51 O (Zbm (T:=179) (sz:=2) (R:=rMk))
 replace G:=G.turn 51 O (r':=.ob (.val (.slice none 0 0)) (Zs 179 2 rMk (mkL [] (msN 0)))) (fun _ _ _ _ h=>h)
 obtain ⟨F,G⟩:=G.nM [15,14,3,2] [102,101,51,50,3,1,0]
 replace G:=G.fresh 60 rfl
 replace G:=G.turn 60 O (r':=ZeZ (ZdC (roomN room)) (ZbR [] (fun k=>Zdi [] (roomN room) (k:Int)))) (fun _ _ _ _ h=>h)
 obtain ⟨F,G⟩:=G.nM [15,14,3,2] [102,101,60,51,50,3,1,0]
 replace G:=G.fresh 61 rfl
 replace G:=G.turn 61 O (r':=ZeZ (ZdC (roomN room)) (ZbR [] (fun _:Nat=>([]:List Int)))) (fun _ _ _ _ h=>h)
 obtain ⟨F,G⟩:=G.nM [15,14,3,2] [102,101,61,60,51,50,3,1,0]
 refine Za (Yj (Zo (σ:=Nat×Value×List Value×Value×List Value×List (GE Int Int)×Nat) [2,3,14] [0,1,3] (fun s=>[(15,.pv (.int .i64 (s.1:Int)))]) (fun s=>[(102,.pt (.val v9) 177 [.pv (.is v6),.pv (.is s.2.1),.pv (.is s.2.2.2.1),.pv (.is v7),.pv (.is (.pointer none))]),(101,.ob (.val v7) (ZoI s.2.2.2.2.2.1 s.2.2.2.2.2.2)),(50,.ob (.val s.2.1) (Zs 167 1 rV s.2.2.1)),(51,.ob (.val s.2.2.2.1) (Zs 179 2 rMk (mkL s.2.2.2.2.1 (msN s.1)))),(60,ZeZ (ZdC (roomN room)) (ZbR s.2.2.1 (fun k=>Zdi [] (roomN room) (k:Int)))),(61,ZeZ (ZdC (roomN room)) (ZbR s.2.2.2.2.1 (fun _:Nat=>([]:List Int))))]) (fun s=>s.1≤(roomN room)∧s.2.2.1.length=s.1∧s.2.2.2.2.1.length=s.1∧ZoG s.2.2.2.2.2.1 (msN s.1)) (fun s=>(roomN room) - s.1) ((0),(.slice none 0 0),([]),(.slice none 0 0),([]),([]),(0)) G ⟨rfl,rfl,rfl,rfl,tv⟩ ⟨rfl,rfl,rfl,rfl,rfl,rfl,rfl,rfl,rfl,tv⟩ ⟨Yr _,rfl,rfl,fun _=>rfl⟩ ?_))
 clear G;intro s a w F hC G
 obtain ⟨i,u1,p1,u2,p2,es,ck⟩:=s
 try dsimp only at hC
 obtain ⟨F,G⟩:=G.nM [15,14,3,2] [102,101,61,60,51,50,3,1,0]
 try dsimp only at G
 obtain ⟨hi,hp1,hp2,hsz⟩:=hC
 refine Ya (rZ G (qL r2) J [16,15,14,3,2] [102,101,61,60,51,50,3,1,0] fun G=>Ya ?_)
 refine Zc G O (fun hc0=>?_) (fun hc0=>?_)
 ·have hil:i<(roomN room):=by simp at hc0;omega
  have hrl:=ZaS room
  refine Yi (Za (Ya (Yj (Ya (rZ G (qR rr (qO rr qZ)) J [15,14,4,3,2] [102,101,61,60,51,50,3,1,0] fun G=>Ya ?_)))))
  replace G:=G.dupG 1 70 O rfl
  refine Zbb G (qR rr (qR rr (qf (Zr 102 .is (by rfl)) r1 r1 (qf (oF 1 102 .adr) r1 r1 (qa 102 r1 r1 (qR rr (qf (Zr 102 .is (by rfl)) r1 r1 (qf (oF 0 102 .adr) r1 r1 (qa 102 r1 r1 (qf (OpC.lend 3 [26] ZdQ (oP (ZdP (roomN room) []) func91 (Args.one .t)) ⟨rfl,tv⟩ (.pv (fun _ _ _ _ h=>h)) trivial (by rfl)) r1 r1 (qf (ZaT 70 (Zfg ((roomN room):Int)) func88 O kr (Args.one .t) PV.ptr_one) r1 r1 (qf (Zge (i:=28) (j:=28) (p:=fun z=>.arr 1 [.is z]) (by rfl) (fun z=>Zz (sz:=1) (zs:=[.pointer none]) (r:=[(0,.tmp 28)]) (l:=[_]) YbF kr kr kr kr O O (.one O .t Zfl kr .nil) O)) r1 qz (qf (ZiB (i:=29) (j:=28) (by rfl) (fun z=>Z4 (sz:=1) (bs:=8) 50 (.mk' YbF kr kr) (by intro x;rfl) .is (.arr (l':=[z]) .t) (by simp only [Yd,Yv,YS,Zly];omega) (by decide))) ⟨rfl,rfl,tv⟩ ⟨rfl,tv⟩ (qf (Zr 102 .is (by rfl)) r1 r1 (qf (oF 1 102 .adr) r1 r1 (qf (Zah 102 .adr kr kr) r2 r1 qZ)))))))))))))))) J [15,14,4,3,2] [102,101,70,61,60,51,50,3,1,0] (fun _=>rfl) (fun _=>rfl) fun τ a w F G=>?_
  try dsimp only [RS.sub,SF.sub,CF.sub,csub,Anc.sub,List.map,Zg,xL,xM,Nat.reduceAdd,xD,xE,xT,xU,xC,xN,zCF,ldSF,rV,rMk,ZoI,rInt] at G
  generalize τ 28=v28,τ 30=v30 at G
  rw [Zcd ow] at G
  replace G:=G.turn 70 O (r':=RS.hp (ZdC (roomN room) (v28,[]))) (fun _ _ _ _ h=>h)
  obtain ⟨F,G⟩:=Sat.pushFam (ZdC (roomN room)) (L:=ZbR p1 (fun k=>Zdi [] (roomN room) (k:Int))) (x:=(v28,[])) G 60 70 O O rfl
  rw [Zcf (by exact (Zg9 _ _).symm)] at G
  obtain ⟨F,G⟩:=G.nM [15,14,4,3,2] [102,101,61,60,51,50,3,1,0]
  refine Za (Ya ?_)
  replace G:=G.dupG 1 71 O rfl
  refine Zbb G (qR rr (qR rr (qf (Zr 102 .is (by rfl)) r1 r1 (qf (oF 2 102 .adr) r1 r1 (qa 102 r1 r1 (qR rr (qR rr (qf (Zr 102 .is (by rfl)) r1 r1 (qf (oF 0 102 .adr) r1 r1 (qa 102 r1 r1 (qf (OpC.lend 3 [42] ZdQ (oP (ZdP (roomN room) []) func91 (Args.one .t)) ⟨rfl,tv⟩ (.pv (fun _ _ _ _ h=>h)) trivial (by rfl)) r1 r1 (qf (ZaT 71 (Zfg ((roomN room):Int)) func88 O kr (Args.one .t) PV.ptr_one) r1 r1 (qf (oB [(0,.tmp 38),(1,.tmp 44)] [.int .i64 0,.pointer none] [(0,1),(1,1)] (.one O .t one_int kr (.same O kr .nil))) r2 qz (qf (Zof (i:=45) (j:=44) (p:=fun z=>.arr 1 [.int .i64 (i:Int),.is z]) (cs:=fun z=>[.pv (.int .i64 (i:Int)),.pv (.is z)]) (by rfl) ZlR (fun z=>Zz (sz:=2) (zs:=[.int .i64 0,.pointer none]) (r:=[(0,.tmp 45)]) (l:=[_,_]) underlying175 kr kr kr kr O O (.agg O .t kr kr .nil) O)) r1 qz (qf (ZiB (i:=46) (j:=44) (by rfl) (fun z=>Z4 (sz:=2) (bs:=16) 51 (.mk' underlying175 kr kr) (by intro x;rfl) .is (.arr (l':=[((i:Int),z)]) .t) (by simp only [Yd,Yv,YS,Zly];omega) (by decide))) ⟨rfl,rfl,tv⟩ ⟨rfl,tv⟩ (qf (Zr 102 .is (by rfl)) r1 r1 (qf (oF 2 102 .adr) r1 r1 (qf (Zah 102 .adr kr kr) r2 r1 qZ)))))))))))))))))) J [15,14,4,3,2] [102,101,71,61,60,51,50,3,1,0] (fun _=>rfl) (fun _=>rfl) fun τ a w F G=>?_
  try dsimp only [RS.sub,SF.sub,CF.sub,csub,Anc.sub,List.map,Zg,xL,xM,Nat.reduceAdd,xD,xE,xT,xU,xC,xN,zCF,ldSF,rV,rMk,ZoI,rInt] at G
  generalize τ 44=v44,τ 47=v47 at G
  rw [Zcd ow] at G
  replace G:=G.turn 71 O (r':=RS.hp (ZdC (roomN room) (v44,[]))) (fun _ _ _ _ h=>h)
  obtain ⟨F,G⟩:=Sat.pushFam (ZdC (roomN room)) (L:=ZbR p2 (fun _:Nat=>([]:List Int))) (x:=(v44,[])) G 61 71 O O rfl
  rw [Zcf (by exact (rfl).symm)] at G
  obtain ⟨F,G⟩:=G.nM [15,14,4,3,2] [102,101,61,60,51,50,3,1,0]
  rw [show mkL p2 (msN i) ++ [((i:Int),v44)] = mkL (p2 ++ [v44]) (msN (i+1)) from by rw [Zin];exact Eq.symm (ZmK (ks:=p2) (ms:=msN i) (m:=((i:Int),[])) (by have:=Zhp i;omega))] at G
  refine Za (Zf G (qR rr (qf (Zr 102 .is (by rfl)) r1 r1 (qf (oF 3 102 .adr) r1 r1 (qa 102 r1 r1 (qR rr (qf (Zb0 (ek:=(fun c:Int=>PV.int .i64 c)) 101 underlying85 (ZdO YbD) .is (ZM.int .t O) qi) r2 r1 qZ)))))) J [15,14,3,2] [102,101,61,60,51,50,3,1,0] O O fun a w F G=>Zk (Za ?_))
  refine rZ G (qp r1 (qR rr qZ)) J [15,14,3,2] [102,101,61,60,51,50,3,1,0] fun G=>?_
  replace G:=G.ent (i:=15) (s':=.pv (.int .i64 ((i+1:Nat):Int))) O (.int (Zh ow))
  obtain ⟨F,G⟩:=G.nM [14,3,2,15] [3,1,0,61,60,51,50,101,102]
  exact ⟨((i+1),(v30),((p1 ++ [v28])),(v47),((p2 ++ [v44])),((gPut (i:Int) 1 (es,ck)).1),((gPut (i:Int) 1 (es,ck)).2)),F,⟨by omega,by rw [Yd,Yax,hp1],by rw [Yd,Yax,hp2],hsz.new⟩,G,(by show _ - (i+1)<_ - i;omega)⟩
 have hil:i=(roomN room):=by simp at hc0;omega
 have hrl:=ZaS room
 subst hil
 replace G:=G.turn 61 O (r':=ZeZ (ZdC (roomN room)) (ZbR p2 fun k=>(Nn (msN (roomN room)) k).2)) (by rw [← Zjl (ps:=p2) (f:=(fun _:Nat=>([]:List Int))) (g:=fun k=>(Nn (msN (roomN room)) k).2) (fun k hk=>by rw [Zkd ow])];exact fun _ _ _ _ h=>h)
 refine YA (Zj (Zj (Zw (Za (Ya ?_)))))
 replace G:=G.dupG 1 72 O rfl
 refine Zb G (qR rr (qR rr (qf (Zr 102 .is (by rfl)) r1 r1 (qf (oF 0 102 .adr) r1 r1 (qa 102 r1 r1 (qf (OpC.lend 3 [60] ZdQ (oP (ZdP (roomN room) []) func91 (Args.one .t)) ⟨rfl,tv⟩ (.pv (fun _ _ _ _ h=>h)) trivial (by rfl)) r1 r1 (qf (ZaT 72 (Zfg ((roomN room):Int)) func88 O kr (Args.one .t) PV.ptr_one) r1 r1 (qf (Zr 102 .is (by rfl)) r1 r1 (qf (oF 4 102 .adr) r1 r1 (qf (Zah 102 .adr kr kr) r2 r1 qZ)))))))))) J [3,2] [102,101,72,61,60,51,50,3,1,0] (fun _=>rfl) (fun _=>rfl) fun τ a w F G=>?_
 try dsimp only [RS.sub,SF.sub,CF.sub,csub,Anc.sub,List.map,Zg,xL,xM,Nat.reduceAdd,xD,xE,xT,xU,xC,xN,zCF,ldSF,rV,rMk,ZoI,rInt] at G
 generalize τ 62=v62 at G
 rw [Zcd ow] at G
 refine Za (Ya (rZ G (qR rr (qO rr qZ)) J [2] [102,101,72,61,60,51,50,3,1,0] fun G=>Yg ?_))
 replace G:=G.turn 72 O (r':=RS.hp (ZhM v62 (roomN room) [])) (fun _ _ _ _ h=>h)
 obtain ⟨b,rfl⟩:=G.shape 102 rfl
 obtain ⟨F,G⟩:=G.nM [2] [102,101,72,61,60,51,50,3,0]
 have G:=G.fresh 1 rfl
 obtain ⟨F,G⟩:=G.push 1 72 O O O kr
 obtain ⟨F,G⟩:=G.push 1 61 O O O kr
 obtain ⟨F,G⟩:=G.push 1 60 O O O kr
 obtain ⟨F,G⟩:=G.push 1 101 O O O kr
 obtain ⟨F,G⟩:=G.push 1 51 O O O kr
 obtain ⟨F,G⟩:=G.push 1 50 O O O kr
 obtain ⟨F,G⟩:=G.push 1 3 O O O kr
 obtain ⟨F,G⟩:=G.push 1 102 O O O kr
 have G:=G.turn 1 O (r':=RS.hp (coH (.pointer (some ⟨b,0,none⟩)) (roomN room) [] [])) (fun _ _ _ _ h=>⟨(⟨v6,u1,u2,v7,v62,p1,p2,msN (roomN room),es,ck,[],[]⟩:CoS),ZpC.new (ZaS room) (by show p1.length=_;omega) (by show p2.length=_;omega) O hsz rfl,h⟩)
 refine Zab (h':=fun v=>coH v (roomN room) [] []) hG G O (.tmp O .nil) (.one .ptr) rfl
theorem Zou {P:Program} {B:Zax} {F0:Fp} (hG:ZjQ B F0 2) {E:En} {a:Act} {w:World} {F:Fp} {fn:Func} {q:PV} {k1 k2:HP} {ss:List SF} (G:Sat B E a w F) (h0:Go.Gm.look E.r 0=some (frame B)) (hr:ROk P E fn.results.toList ss) (hq:Zck ss q)
  (h1:Go.Gm.look E.r 1=some (RS.hp k1)) (h2:Go.Gm.look E.r 2=some (RS.hp k2)):bodyPost P fn (RG B F0 2 q (fun _=>[k1,k2])) .ret a w:=
 Zl2 hG G h0 hr hq fun v τ y hv i h hi=>by
  match i,hi with
  | 0,hi=>simp at hi;subst hi;exact ⟨_,h1,by omega,fun _ _ _ h=>h⟩
  | 1,hi=>simp at hi;subst hi;exact ⟨_,h2,by omega,fun _ _ _ h=>h⟩
theorem ZnD {v:Value} {T:TypeId} {p q p1 p2 p3:PV} (τ:Tau) (w:World) (f y:Ys) (h:(RS.pt (.val v) T [.pv p,.pv q,.pv p1,.pv p2,.pv p3]).holds τ w f y):(RS.pt (.val v) T [.pv p,.pv q,.pv .any,.pv .any,.pv .any]).holds τ w f y:=by
 obtain ⟨b,vs,h1,h2,h3,h4⟩:=h
 refine ⟨b,vs,h1,h2,h3,?_⟩
 generalize vs.toList=us at h4 ⊢
 match us,h4 with
 | [u1,u2,u3,u4,u5],k=>exact ⟨k.1,k.2.1,⟨k.2.2.1.1,tv⟩,⟨k.2.2.2.1.1,tv⟩,⟨k.2.2.2.2.1.1,tv⟩,tv⟩
theorem ZoA (b:Nat) (dv:Value):FnG prog 36 2 [.is (.pointer (some ⟨b,0,none⟩)),.int .i64 16] [gH ZhQ Zh1,HP.star [.pt (.val (.pointer (some ⟨b,0,none⟩))) 90 [.pv (.ref [.is (.slice none 0 0),.is (.slice none 0 0),.ptr,ZcA,.is (.slice none 0 0),.is (.slice none 0 0)]),.pv (.is (.pointer none)),.pv (.is dv),.pv (.is (.pointer none)),.pv (.is (.pointer none))],RS.hp (ZoR dv)]] (.tup []) (fun _=>[HP.star [],HP.star [.pt (.val (.pointer (some ⟨b,0,none⟩))) 90 [.pv (.ref [.is (.slice none 0 0),.is (.slice none 0 0),.ptr,ZcA,.is (.slice none 0 0),.is (.slice none 0 0)]),.pv (.ref [.sl Zcq (Z2 16),.any,.any]),.pv .any,.pv .any,.pv .any]]]):=by
 refine FnG.mk func36 O ntmps36 O kr fun B F0 a w F J hG G=>?_
 obtain ⟨F,G⟩:=G.peel 2 3 O rfl
 obtain ⟨F,G⟩:=G.peel 2 4 O rfl
 replace G:=G.turn 4 O (r':=.ob (.val dv) ZoR) (fun _ _ _ _ h=>h)
 obtain ⟨F,G⟩:=G.nM [1,0] [4,3,1,0]
 refine Ya ?_
 replace G:=G.dupG 1 61 O rfl
 replace G:=G.dupG 1 62 O rfl
 refine ZaC 4 G kr (cG O (oM .t) r1 trivial (cG O (oM .t) r1 trivial (cG O (oM .t) r1 trivial (cG O (ZaT 61 (Zpn 16) func61 O kr (Args.one .t) PV.ptr_one) r1 r1 ZJ.nil)))) kr (by rw [J];kernel_rfl) fun a w F G=>?_
 replace G:=G.sub
 obtain ⟨F,G⟩:=G.nM [7,5,4,1,0] [62,61,4,3,1,0]
 try dsimp only [RS.sub,SF.sub,CF.sub,csub,Anc.sub,List.map,rInt,Zcq,Zav] at G
 generalize Act.tau a 7=v7 at G
 rw [show roomN 16=16 from rfl] at G
 replace G:=G.turn 61 O (r':=RS.hp (ZgJ v7 16 (Z2 16))) (fun _ _ _ _ h=>h)
 obtain ⟨F,G⟩:=Sat.giveL (p:=.ref [.sl Zcq (Z2 16),.any,.any]) G 61 7 O O Zjw
 obtain ⟨F,G⟩:=G.nM [7,5,4,1,0] [62,4,3,1,0]
 refine ZaZ G kr (cG O (oM .t) r1 trivial (cG O (ZaT 62 (Zon 16) func62 O kr (Args.one .t) PV.ptr_one) r1 r1 (cG O (Zr 3 .is (by rfl)) r1 r1 (cG O (oF 1 3 .adr) r1 r1 (cG O (Zat 3 .adr .t Zj9 kr kr) r2 r1 (cG O (Zr 3 .is (by rfl)) r1 r1 (cG O (oF 3 3 .adr) r1 r1 (cG O (Zah 3 .adr kr kr) r2 r1 ZJ.nil)))))))) kr (by rw [J];kernel_rfl) fun a w F G=>?_
 replace G:=G.sub
 obtain ⟨F,G⟩:=G.nM [0] [62,4,3,1,0]
 try dsimp only [RS.sub,SF.sub,CF.sub,csub,Anc.sub,List.map,Zg,xL,xM,Nat.reduceAdd,xD,xE,xT,xU,xC,xN,zCF,rInt,Zcq,Zav] at G
 generalize Act.tau a 9=v9 at G
 refine Za (Ya (rZ G (qR rr (qf (oP (Zoc 4096) func63 (Args.one qi)) trivial qz (qf (Zr 3 .is (by rfl)) r1 r1 (qf (oF 4 3 .adr) r1 r1 (qf (Zat 3 .adr .t Zkf kr kr) r2 r1 qZ))))) J [0] [62,4,3,1,0] fun G=>?_))
 refine Zf G (qR rr (qf (Zr 3 .is (by rfl)) r1 r1 (qf (oF 2 3 .adr) r1 r1 (qa 3 r1 r1 (qf (Zm8 4 underlying85 .is) r1 r1 qZ))))) J [] [62,4,3,1,0] O O fun a w F G=>?_
 replace G:=G.turn 3 O (r':=.pt (.val (.pointer (some ⟨b,0,none⟩))) 90 [.pv (.ref [.is (.slice none 0 0),.is (.slice none 0 0),.ptr,ZcA,.is (.slice none 0 0),.is (.slice none 0 0)]),.pv (.ref [.sl Zcq (Z2 16),.any,.any]),.pv .any,.pv .any,.pv .any]) ZnD
 obtain ⟨F,G⟩:=G.nM [] [3,0]
 replace G:=G.fresh 2 rfl
 obtain ⟨F,G⟩:=G.push 2 3 O O O kr
 replace G:=G.fresh 1 rfl
 refine Zou hG G O .nil .none O rfl
theorem ZoT  : ZlM prog ZhQ Zh1 12 [] (.ref [.ref [.is (.slice none 0 0),.is (.slice none 0 0),.ptr,ZcA,.is (.slice none 0 0),.is (.slice none 0 0)],.ref [.sl Zcq (Z2 16),.any,.any],.any,.any,.any]):=by
 refine ZlM.mk func12 O ntmps12 O ?_
 intro B a w F J hfr G
 refine Ya (rZ G (qC qZ) J [0] [9,0] fun G=>Ya ?_)
 refine Zb G (qf (oP (ZnJ) func35 Args.nil) trivial qz (qf (Z7 (ek:=(fun _:Unit=>PV.any)) (ok:=(fun _:Unit=>True)) (kv:=(fun _:Unit=>Value.nilIface)) 101) trivial qz (qf (oB [(0,.tmp 2),(2,.tmp 3)] [.pointer none,.pointer none,.map none,.pointer none,.pointer none] [(0,1),(1,1),(2,1),(3,1),(4,1)] (.one O .t Zj9 kr (.same O kr .nil))) r2 qz (qf (oX 102 .t) r1 qz (qO rr qZ))))) J [1,0] [102,101,9,0] (fun _=>rfl) (fun _=>rfl) fun τ a w F G=>?_
 try dsimp only [RS.sub,SF.sub,CF.sub,csub,Anc.sub,List.map,Zg,xL,xM,Nat.reduceAdd,xD,xE,xT,xU,xC,xN,zCF,rInt,Zcq,Zav] at G
 generalize τ 5=v5,τ 3=v3 at G
 replace G:=G.turn 101 O (r':=RS.hp (ZoR v3)) (fun _ _ _ _ h=>h)
 obtain ⟨b,rfl⟩:=G.shape 102 rfl
 replace G:=G.fresh 70 rfl
 obtain ⟨F,G⟩:=G.push 70 101 O O O kr
 obtain ⟨F,G⟩:=G.push 70 102 O O O kr
 obtain ⟨F,G⟩:=G.nM [1,0] [70,9,0]
 refine Za (Ya ?_)
 replace G:=G.dupG 9 61 O rfl
 refine Zf G (qR rr (qf (Zlr 61 70 (ZoA b v3) func36 O kr O (Args.two .t qi)) r1 r2 qZ)) J [1,0] [70,61,9,0] O O fun a w F G=>?_
 obtain ⟨F,G⟩:=G.peel 70 71 O rfl
 obtain ⟨F,G⟩:=G.nM [1,0] [71,61,9,0]
 refine Za (Ya (Zf G (qR rr (qO rr qZ)) J [0] [71,61,9,0] O O fun a w F G=>?_))
 obtain ⟨F,G⟩:=G.giveRef 71 0 O O rfl
 obtain ⟨F,G⟩:=G.nM [0] [61,9,0]
 try dsimp only [Go.Gm.unCF] at G
 refine Za (Yg (Zt hfr G O O O .refl))
def ZaR (v:Int):List Int→Int
 | []=>-1
 | x :: l=>if x=v then 0 else if ZaR v l<0 then -1 else ZaR v l+1
theorem ZeE {v:Int} : ∀ {l:List Int},(∀ k,k<l.length→Nn l k≠v)→ZaR v l = -1
 | [],_=>rfl
 | x :: l,h=>by
  have h0:x≠v:=h 0 (by simp)
  rw [ZaR,Yb h0,ZeE (l:=l) fun k hk=>by have:=h (k+1) (by simpa using hk);exact this,Ye (by decide)]
theorem Zls {v:Int} : ∀ {l:List Int} {i:Nat},i<l.length→Nn l i=v→(∀ k,k<i→Nn l k≠v)→ZaR v l=i
 | [],i,h,_,_=>by simp at h
 | x :: l,0,_,h,_=>by rw [ZaR,Ye (show x=v from h)];rfl
 | x :: l,i+1,h,h1,h2=>by
  have h0:x≠v:=h2 0 ow
  have:=Zls (l:=l) (i:=i) (by simpa using h) h1 fun k hk=>h2 (k+1) ow
  rw [ZaR,Yb h0,this,Yb ow];omega
theorem Zgd {v:Int} {l:List Int} (h:v ∈ l):∃ i:Nat,ZaR v l=i∧i<l.length∧Nn l i=v ∧ ∀ k,k<i→Nn l k≠v:=by
 induction l with
 | nil=>cases h
 | cons x l ih=>
  by_cases hx:x=v
  ·exact ⟨0,by rw [ZaR,Ye hx];rfl,by simp,hx,fun k hk=>absurd hk (Y5 k)⟩
  ·obtain ⟨i,h1,h2,h3,h4⟩:=ih (by rcases Yo.1 h with h | h;exact absurd h.symm hx;exact h)
   refine ⟨i+1,by rw [ZaR,Yb hx,h1,Yb ow];omega,by simpa using h2,h3,fun k hk=>?_⟩
   cases k with
   | zero=>exact hx
   | succ k=>exact h4 k ow
theorem Zgn {v:Int} {l:List Int} (h:v ∉ l):ZaR v l = -1:=ZeE fun k hk e=>h (e ▸ Z5 hk)
theorem Zfa (v:Int) (l:List Int) : -1≤ZaR v l∧ZaR v l<l.length:=by
 by_cases h:v ∈ l
 ·obtain ⟨i,h1,h2,_⟩:=Zgd h
  omega
 ·rw [Zgn h];omega
theorem ZiX {v:Int} {l:List Int} : 0≤ZaR v l ↔ v ∈ l:=by
 constructor
 ·intro h
  by_cases hm:v ∈ l
  ·exact hm
  ·rw [Zgn hm] at h;omega
 ·intro h
  obtain ⟨i,h1,_⟩:=Zgd h
  omega
def ZjT (l:List Int) (j x:Int):List Int:=if 0≤j∧j≤l.length then l.take j.toNat++x :: l.drop j.toNat else l
def Zap (l:List Int):Prop:=(∀ x ∈ l,1≤x∧x≤1048575)∧l.Nodup
instance (l:List Int):Decidable (Zap l):=by unfold Zap;exact inferInstance
theorem Zap.snoc {l:List Int} {x:Int} : Zap (l ++ [x]) ↔ Zap l∧(1≤x∧x≤1048575)∧x ∉ l:=by
 unfold Zap
 constructor
 ·rintro ⟨h1,h2⟩
  rw [YaU] at h2
  exact ⟨⟨fun y hy=>h1 y (by simp [hy]),h2.1⟩,h1 x (by simp),fun hx=>h2.2.2 x hx x (by simp) rfl⟩
 ·rintro ⟨⟨h1,h2⟩,h3,h4⟩
  refine ⟨fun y hy=>?_,YaU.2 ⟨h2,by simp,fun a ha b hb=>?_⟩⟩
  ·rcases YM.1 hy with hy | hy
   ·exact h1 y hy
   ·rw [Yl.1 hy];exact h3
  ·rw [Yl.1 hb]
   intro e;subst e;exact h4 ha
theorem Zap.take {l:List Int} (h:Zap l) (i:Nat):Zap (l.take i):=⟨fun x hx=>h.1 x (YaB hx),h.2.sublist (List.take_sublist i l)⟩
def leI (x y:Int):Bool:=decide (x≤y)
theorem ZkA {a b:List Int} : a.mergeSort leI=b.mergeSort leI ↔ a.Perm b:=by
 constructor
 ·intro h
  exact (YaZ a leI).symm.trans (h ▸ YaZ b leI)
 ·intro h
  have hs:∀ l:List Int,List.Pairwise (fun x y=>x≤y) (l.mergeSort leI):=fun l=>by
   have:=List.pairwise_mergeSort (le:=leI) (fun a b c h1 h2=>by simp [leI] at *;omega) (fun a b=>by simp [leI];omega) l
   exact this.imp fun h=>by simpa [leI] using h
  exact List.Perm.eq_of_pairwise (fun x y _ _ h1 h2=>Int.le_antisymm h1 h2) (hs a) (hs b) (((YaZ a leI).trans h).trans (YaZ b leI).symm)
def withO (l:List Int) (tx:Int):List Int:=if tx ∈ l then l else l ++ [tx]
def withoutO (l:List Int) (tx:Int):List Int:=l.filter fun x=>decide (x≠tx)
def Z8 (l:List Int) (tx place:Int):List Int×Int:=if ZaR tx l<0 then ([],3) else if ¬ (0≤place∧place<l.length) then ([],1) else (ZjT (l.eraseIdx (ZaR tx l).toNat) place tx,0)
theorem Zmw {l:List Int} {i p:Nat} {x:Int} (hi:i<p) (hp:p<l.length) :
  ((l.take i++(l.drop (i+1)).take (p - i))++l.drop p).set p x=ZjT (l.eraseIdx i) p x:=by
 have e1:(l.take i++(l.drop (i+1)).take (p - i)).length=p:=by simp;omega
 unfold ZjT
 rw [Ye ⟨by omega,by rw [List.length_eraseIdx,Ye ow];omega⟩,Yc]
 rw [Ybe _ _ ow,e1,Nat.sub_self]
 rw [List.drop_eq_getElem_cons hp,List.set_cons_zero,List.eraseIdx_eq_take_drop_succ]
 congr 1
 ·rw [YaT,Yah,Nat.min_eq_right ow,Yf,Yaf ow]
 ·congr 1
  have e3:(l.take i).drop p = []:=Ybb (by rw [Yf];omega)
  rw [List.drop_append,Yf,Yaf ow,e3,Yao,Ybq]
  congr 1;omega
theorem Zmr {l:List Int} {i p:Nat} {x:Int} (hi:p≤i) (hp:i<l.length) :
  ((l.take (p+1)++(l.drop p).take (i - p))++l.drop (i+1)).set p x=ZjT (l.eraseIdx i) p x:=by
 unfold ZjT
 rw [Ye ⟨by omega,by rw [List.length_eraseIdx,Ye ow];omega⟩,Yc]
 rw [Yad,List.set_append_left _ _ (by simp;omega),List.take_succ_eq_append_getElem ow,Ybe _ _ (by simp;omega)]
 rw [List.eraseIdx_eq_take_drop_succ]
 have e1:p - (l.take p).length=0:=by simp;omega
 rw [e1]
 simp only [List.set_cons_zero,Yad,Y4]
 congr 1
 ·rw [YaT,Yah,Yaf ow,Yf]
  simp [show p - min i l.length=0 by omega]
 ·congr 1
  rw [List.drop_append,Yf,Yaf ow,show p - i=0 by omega,List.drop_zero,Ybr]
def ZI (now:List Int) (i:Int):List Int→List Zy
 | []=>[]
 | x :: to=>if Nn now i.toNat=x then ZI now (i+1) to else ⟨x,i⟩ :: ZI (Z8 now x i).1 (i+1) to
def Zbo (a b:List Int):Prop:=Zap a∧Zap b∧a.Perm b
instance (a b:List Int):Decidable (Zbo a b):=by unfold Zbo;exact inferInstance
def ZbC (a b:List Int):List Zy×Int:=if Zbo a b then (ZI a 0 b,0) else ([],8)
theorem Zhj {v:Int} {l:List Int} (h:v ∈ l):l.eraseIdx (ZaR v l).toNat=l.erase v:=by
 induction l with
 | nil=>cases h
 | cons x l ih=>
  by_cases hx:x=v
  ·subst hx
   rw [ZaR,Ye rfl];simp
  ·have hm:v ∈ l:=by rcases Yo.1 h with h | h;exact absurd h.symm hx;exact h
   obtain ⟨i,h1,h2,_⟩:=Zgd hm
   rw [ZaR,Yb hx,Yb ow,h1,List.erase_cons_tail (by simpa using hx),← ih hm,h1]
   rw [show ((i:Int)+1).toNat=i+1 by omega,Yc,List.eraseIdx_cons_succ]
theorem ZkM {l:List Int} {j x:Int} (h:0≤j∧j≤l.length):(ZjT l j x).Perm (x :: l):=by
 unfold ZjT
 rw [Ye h]
 have:=(List.perm_middle (a:=x) (l₁:=l.take j.toNat) (l₂:=l.drop j.toNat))
 rwa [Yaw] at this
theorem ZfT {l:List Int} {tx place:Int} (h:tx ∈ l) (hp:0≤place∧place<l.length):Z8 l tx place=(ZjT (l.erase tx) place tx,0):=by
 unfold Z8
 rw [Yb (by have:=ZiX.2 h;omega),Yb (by simpa using hp),Zhj h]
theorem Zb8 {l:List Int} {tx place:Int} (h:tx ∈ l) (hp:0≤place∧place<l.length):(Z8 l tx place).1.Perm l:=by
 rw [ZfT h hp]
 have hl:(l.erase tx).length=l.length - 1:=List.length_erase_of_mem h
 exact (ZkM ow).trans (List.perm_cons_erase h).symm
def Zau (l:List Int):List Zy→List Int
 | []=>l
 | p :: s=>Zau (Z8 l p.key p.val).1 s
theorem Zm2 {l:List Int} {tx:Int} {i:Nat} (h:tx ∈ l) (hi:i<l.length) (hx:tx ∉ l.take i):(Z8 l tx i).1.take (i+1)=l.take i ++ [tx]:=by
 rw [ZfT h ow]
 have hl:(l.erase tx).length=l.length - 1:=List.length_erase_of_mem h
 show (ZjT (l.erase tx) i tx).take (i+1)=_
 unfold ZjT
 rw [Ye ow,Yc,YaT,YJ (by rw [Yf];omega),Yf,show i+1 - min i (l.erase tx).length=1 by omega]
 have e:(l.erase tx).take i=l.take i:=by
  conv=>lhs;rw [← Yaw i l]
  rw [List.erase_append_right _ hx,YaT,Yf,Yaf ow,Nat.sub_self,List.take_zero,Y2,Yah,Ybl]
 rw [e];rfl
theorem Zcs:∀ (to:List Int) (now pre:List Int),now.Perm (pre++to)→now.take pre.length=pre→now.Nodup→Zau now (ZI now pre.length to)=pre++to
 | [],now,pre,hp,ht,hn=>by
  have:=hp.length_eq
  simp at this
  simp only [ZI,Zau,Y2]
  rw [← ht,YJ ow]
 | x :: to,now,pre,hp,ht,hn=>by
  have hl:=hp.length_eq
  simp at hl
  have hxm:x ∈ now:=hp.mem_iff.2 (by simp)
  have hnd:(pre++x :: to).Nodup:=hp.nodup hn
  have hxp:x ∉ pre:=fun h=>(YaU.1 hnd).2.2 x h x (by simp) rfl
  have e:pre++x :: to=(pre ++ [x])++to:=by simp
  have elen:((pre ++ [x]).length:Int)=(pre.length:Int)+1:=by simp
  unfold ZI
  rw [Yc]
  split
  ·rename_i h
   have:=Zcs to now (pre ++ [x]) (by rw [← e];exact hp) (by
    rw [Yd,Yax,ZF ow,h,ht]) hn
   rw [elen] at this
   rw [this,← e]
  ·rename_i h
   show Zau (Z8 now x pre.length).1 _=_
   have hp2:=Zb8 (place:=(pre.length:Int)) hxm ow
   have:=Zcs to (Z8 now x pre.length).1 (pre ++ [x]) (by rw [← e];exact hp2.trans hp) (by
    rw [Yd,Yax,Zm2 hxm ow (by rw [ht];exact hxp),ht]) (hp2.symm.nodup hn)
   rw [elen] at this
   rw [this,← e]
theorem Zcw:∀ (to:List Int) (now:List Int) (i:Int),∃ s,s.Sublist to∧(ZI now i to).map Zy.key=s
 | [],now,i=>⟨[],List.Sublist.refl _,rfl⟩
 | x :: to,now,i=>by
  unfold ZI
  split
  ·obtain ⟨s,h1,h2⟩:=Zcw to now (i+1)
   exact ⟨s,h1.cons x,h2⟩
  ·obtain ⟨s,h1,h2⟩:=Zcw to (Z8 now x i).1 (i+1)
   exact ⟨x :: s,h1.cons_cons x,by rw [YI,h2]⟩
end Go.Proofs.YthfoojdlcjfmcaaGreatDoor
