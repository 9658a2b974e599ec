import Derived.Test.YtmlmfpikncogpaaGreatL11
namespace Go.Proofs.YtmlmfpikncogpaaGreat
open Go.RowKit
set_option linter.unusedSimpArgs false
set_option linter.unusedVariables false
set_option maxRecDepth 100000
set_option maxHeartbeats 16000000
structure aR (T:BTy) (tr:TypeId) (w:World) (bt:Nat) (es:List Ent) (F:List Nat) (n:Int):Prop where
 out_:∃root h m Fn,Blk w bt tr #[ptr root,I 16,I n]/\iY T w h root m es Fn/\(h=0\/1<=m)/\m<=15/\Fn.Nodup/\bt∉Fn/\F=bt::Fn
theorem aR.keep {T:BTy} {tr:TypeId} {w w':World} {bt:Nat} {es:List Ent} {F Y:List Nat} {n:Int} (h:aR T tr w bt es F n) (c:aa Y w w') (b:∀y∈Y,y∉F):aR T tr w' bt es F n:=by
 obtain⟨root,k,m,Fn,d,e,f,g,i,j,rfl⟩:=h.out_;exact⟨root,k,m,Fn,d.keep c (fun a=>b _ a (by simp)),e.keep c (fun y l a=>b y l (by simp[a])),f,g,i,j,rfl⟩
theorem aR.lt {T:BTy} {tr:TypeId} {w:World} {bt:Nat} {es:List Ent} {F:List Nat} {n:Int} (h:aR T tr w bt es F n):∀x∈F,x<w.heap.size:=by
 obtain⟨root,i,m,Fn,b,c,d,e,f,g,rfl⟩:=h.out_;intro x a;rcases Db.1 a with rfl | a
 ·exact b.lt
 exact c.lt x a
theorem aR.nd {T:BTy} {tr:TypeId} {w:World} {bt:Nat} {es:List Ent} {F:List Nat} {n:Int} (h:aR T tr w bt es F n):F.Nodup:=by
 obtain⟨root,g,m,Fn,c,d,e,f,a,b,rfl⟩:=h.out_;exact E7.2 ⟨b,a⟩
def sf (S:Bool) (T:BTy) (tr:TypeId) (w:World) (bt:Nat) (es:List Ent) (F:List Nat) (n:Int) (k v:Value) (e:Ending) (w':World):Prop:=
 ∃old fd a b,e=.returned (.tuple #[old,.bool fd])/\Z (aR T tr w' bt a b (if fd then n else wrap64 (n+1)))/\Z (aa F w w')/\Z (∀x∈b,x∈F\/w.heap.size<=x)/\Z (∀x∈a,x∈es\/x=(k,v))/\Z (S=true->Asc es->a=eu k v es/\fd=dw k es)
section
variable {S:Bool} {T:BTy} {tr:TypeId} {w w1:World} {bt root h m m1:Nat} {es es1:List Ent} {Fn F1:List Nat} {k v:Value} {fd:Bool} {n n':Int}
theorem vj (e:Blk w bt tr #[ptr root,I 16,I n]) (i:h=0\/1<=m) (b:bt∉Fn) (a:il S T w h root m es Fn k v fd w1 m1 es1 F1) (d:m1<=15):
 aR T tr w1 bt es1 (bt::F1) n/\aa (bt::Fn) w w1/\(∀x∈bt::F1,x∈bt::Fn\/w.heap.size<=x):=by
  have f:=a.lo;have g:=e.lt;refine⟨⟨root,h,m1,F1,e.keep a.kp b,a.vw,?_,d,a.nd,fun d=>?_,rfl⟩,a.kp.mono (fun x c=>.inl (by simp[c])),fun x c=>?_⟩
  ·rcases i with h | h
   ·exact .inl h
   exact .inr (by omega)
  ·rcases a.nw _ d with h | h
   ·exact b h
   omega
  rcases Db.1 c with rfl | c
  ·exact .inl (by simp)
  exact(a.nw x c).imp_left (fun h=>by simp[h])
theorem vk {w2:World} {b r:Nat} (M:Blk w bt tr #[ptr root,I 16,I n]) (s:bt∉Fn) (i:il S T w h root m es Fn k v fd w1 m1 es1 F1) (u:m1=16)
 (K:Blk w2 b T.tp #[ptr root]) (L:Blk w2 r T.tn #[.slice none 0 0,.slice none 0 0,.slice (V b) 1 1]) (O:b≠r) (N:w1.heap.size<=b) (Q:w1.heap.size<=r) (t:aa [bt] w1 w2) (D:Blk w2 bt tr #[ptr r,I 16,I n]):
 cR T w2 h r [] [(root,16,es1,F1)] [r,b]/\∀w3,iZ T w2 h r [] (root,16,es1,F1) [] [] [] [r,b] w3->∃F',aR T tr w3 bt es1 F' n/\aa (bt::Fn) w w3/\(∀x∈F',x∈bt::Fn\/w.heap.size<=x):=by
  have R:=i.kp.size;have X:=t.size;have P:=M.lt;have q:∀x∈F1,x<w1.heap.size:=i.vw.lt;have f:bt∉F1:=fun u=>by
   rcases i.nw _ u with h | h
   ·exact s h
   omega
  have z:w2.ownsRow 0 T.tp 1 (.slice (V b) 1 1) 1 ([root].map ptr):=ko (tl:=[]) (by simpa using K) (C3 _) rfl rfl (by simp[maxLen]);have W:cR T w2 h r [] [(root,16,es1,F1)] [r,b]:=by
   refine⟨rfl,⟨none,0,none,0,V b,1,L,bQ _ _ _ _,bQ _ _ _ _,z,rfl⟩,fun c o=>?_,?_⟩
   ·rw[CZ.1 o];have:=(i.vw.keep t (fun y B d=>by rw[CZ.1 B] at d;exact f d)).rep (.inr (by omega));rw[u] at this;exact this
   have:af [((root,16,es1,F1):Kid)]=F1:=by simp[af]
   rw[this,Dp];refine⟨by simp;omega,i.nd,fun x a y B e=>?_⟩;subst e;have:=q x B;simp at a;omega
  refine⟨W,fun w3 A=>?_⟩;obtain⟨e,c1,l,j,J,e2,e3,e4,p,F,H⟩:=A;have g:bt∉[r,b]++F1:=by
   have C:r≠bt:=by omega
   have h2:b≠bt:=by omega
   simp[f];omega
  have E:af ([]++((root,16,es1,F1):Kid)::[])=F1:=by simp[af]
  have hw:es1=ao [c1,l] [e]:=by have C:es1=c1.2.2.1++e::l.2.2.1:=J;rw[C];simp[ao]
  have a0:bt<w2.heap.size:=D.lt;refine⟨bt::(j++af [c1,l]),⟨r,h+1,1,j++af [c1,l],D.keep F g,⟨[e],[c1,l],j,rfl,p.node,rfl,.inr ⟨h,rfl,rfl,hw,fun c o=>⟨p.kid c o,?_⟩⟩⟩,.inr (C9 _),by omega,p.nd,fun d=>?_,rfl⟩,?_,fun x a=>?_⟩
  ·simp only[Db,Dw,or_false] at o;rcases o with rfl | rfl
   ·omega
   omega
  ·rcases H _ d with h | h
   ·rw[E] at h;exact g h
   omega
  ·refine((i.kp.mono (Y:=(bt::Fn)++([r,b]++F1)) (fun x a=>.inl (by simp[a]))).trans ((t.mono (fun x a=>.inl (by simp at a;simp[a]))).trans (F.mono (fun x a=>.inl (Dg _ a))))).mono (fun x a=>?_);simp only[CX,Db,Dw,or_false] at a;rcases a with (a | a) | (a | a) | a
   ·exact .inl (by simp[a])
   ·exact .inl (by simp[a])
   ·exact .inr (by omega)
   ·exact .inr (by omega)
   exact(i.nw x a).imp_left (fun h=>by simp[h])
  rcases Db.1 a with rfl | a
  ·exact .inl (by simp)
  rcases H x a with h | h
  ·rw[E] at h;simp only[CX,Db,Dw,or_false] at h;rcases h with (h | h) | h
   ·exact .inr (by omega)
   ·exact .inr (by omega)
   exact(i.nw x h).imp_left (fun h=>by simp[h])
  exact .inr (by omega)
theorem aR.count {F:List Nat} (h:aR T tr w bt es F n) (n':Int):aR T tr (w.setCell (U bt 2) (I n')) bt es F n'/\aa [bt] w (w.setCell (U bt 2) (I n')):=by
 obtain⟨root,i,m,Fn,c,d,e,f,g,a,rfl⟩:=h.out_;have k:aa [bt] w (w.setCell (U bt 2) (I n')):=(aa.refl [bt] w).setCell (p:=(U bt 2)) (.inl (by simp)) _;exact⟨⟨root,i,m,Fn,by simpa using c.set_ 2 (I n'),d.keep k (fun y j b=>by rw[CZ.1 j] at b;exact a b),e,f,g,a,rfl⟩,k⟩
theorem aR.more {F Fn:List Nat} {a:World} (h:aR T tr w bt es F n) (b:aa (bt::Fn) a w) (n':Int):aR T tr (w.setCell (U bt 2) (I n')) bt es F n'/\aa (bt::Fn) a (w.setCell (U bt 2) (I n')):=
 ⟨(h.count n').1,b.trans ((h.count n').2.mono (fun x c=>.inl (by rw[CZ.1 c];simp)))⟩
end
theorem tR:(∀(w:World) (bt:Nat) (es:List Ent) (F:List Nat) (n:Int) (D:Int) (vA:Option Addr) (vn E:Nat) (S:aR tyI 204 w bt es F n) (f:∀x∈es,cX x.1/\dk x.2),Calls Tryz.prog 125 #[ptr bt,I D,Value.slice vA vn E] w (sf true tyI 204 w bt es F n (I D) (Value.slice vA vn E)))/\
 (∀(w:World) (bt:Nat) (es:List Ent) (F:List Nat) (n:Int) (D:ByteArray) (vx:Int) (S:aR tyS 250 w bt es F n) (f:∀x∈es,dP x.1/\dW x.2),Calls Tryz.prog 126 #[ptr bt,Value.string D,I vx] w (sf false tyS 250 w bt es F n (Value.string D) (I vx))):=by
  refine⟨?_,?_⟩;have a:=trivial;intro w bt es F n D vA vn E S f;rotate_left;intro w bt es F n D vx S f;rotate_left
  all_goals
   obtain⟨root,h,m,Fn,y,J,T,hm,H,d,rfl⟩:=S.out_
   first | (have:=a;have P:=xJ.1 bt (ptr root) (I n) D vA vn E h w root m es Fn y J H d hm f) | have P:=xJ.2 bt (ptr root) (I n) D vx h w root m es Fn y J H d hm f
   have z0:=y.cell 0;replace y:=bZ y;replace d:=bZ d;replace T:=bZ T;replace f:=bZ f;clear S J H;unfold ptr at*
   first | (have:=a;go_enter Tryz.func125,Tryz.ntmps125) | go_enter Tryz.func126,Tryz.ntmps126
   go_wp2_with fail;refine P.mono ?_;clear P;rintro e w1 ⟨old,fd,m1,es1,F1,rfl,A⟩;have u:=bZ (y.o.keep A.o.kp d.o);have t0:=u.o.cell 0;have t1:=u.o.cell 1;have t2:=u.o.cell 2;have tf:=u.o.frozen;have a4:=A.o.hi;have c:=bZ A.o.sub;have l:=bZ A.o.ord;obtain⟨Y,qc,q0⟩:∃Y qc,w1.cell? (U root 0)=G Y m1 qc:=by
    obtain⟨a3,_,_,a2,⟨Y,qc,_,_,_,_,hB,_⟩,_⟩:=A.o.vw;refine⟨Y,qc,?_⟩;have:=hB.cell 0;rw[Df,<-a2] at this;exact this
   have a7:w1.drew.cell? (U bt 0)=some (.pointer (V root)):=t0;have a9:w1.drew.cell? (U bt 1)=some (I 16):=t1;have ac:∀k,(w1.drewN k).cell? (U bt 2)=some (I n):=fun k=>t2;have ak:∀k i,(w1.drewN k).frozen? (U bt i)=false:=fun k=>tf;have a6:w1.drew.cell? (U root 0)=G Y m1 qc:=q0;by_cases a0:m1=16
   ·subst a0;have kn:Z (∀k,aa [] w1 (w1.drewN k)):=bZ (fun k=>(aa.refl [] w1).drewN k);have a8:∀k,(w1.drewN k).cell? (U bt 0)=some (.pointer (V root)):=fun k=>t0;have c2:∀k K L,(((w1.drewN k).alloc K).alloc L).cell? (U bt 0)=some (.pointer (V root)):=fun k K L=>(((u.o.keep (kn.o k) (by simp)).alloc K).alloc L).cell 0;have f2:∀k K L,(((w1.drewN k).alloc K).alloc L).frozen? (U bt 0)=false:=fun k K L=>(((u.o.keep (kn.o k) (by simp)).alloc K).alloc L).frozen 0;go_wp2_with fail;go_quiet (fail);go_wp2_with fail;obtain⟨b,s⟩:∃b,b=w1.heap.size:=⟨_,rfl⟩
    first | (have:=a;obtain⟨t,g⟩:∃x,x=(w1.drewN nq).alloc (.cells #[.pointer (V root)] 202):=⟨_,rfl⟩) | obtain⟨t,g⟩:∃x,x=(w1.drewN nq).alloc (.cells #[.pointer (V root)] 248):=⟨_,rfl⟩
    first | (have:=a;obtain⟨wr,q⟩:∃x,x=t.alloc (.cells #[.slice none 0 0,.slice none 0 0,.slice (V b) 1 1] 210):=⟨_,rfl⟩) | obtain⟨wr,q⟩:∃x,x=t.alloc (.cells #[.slice none 0 0,.slice none 0 0,.slice (V b) 1 1] 254):=⟨_,rfl⟩
    obtain⟨w2,B⟩:∃x,x=wr.setCell (U bt 0) (.pointer (V (b+1))):=⟨_,rfl⟩;have sb:t.heap.size=b+1:=by rw[g,s];simp
    have a1:bt<b:=by rw[s];exact u.o.lt
    have kb:aa [] w1 t:=by rw[g];exact(kn.o nq).alloc _
    have kr:aa [] t wr:=by rw[q];exact(aa.refl [] t).alloc _
    have k2:aa [bt] wr w2:=by rw[B];exact(aa.refl [bt] wr).setCell (p:=(U bt 0)) (.inl (by simp)) _
    first | (have:=a;have B2:Blk w2 b 202 #[ptr root]:=?_) | have B2:Blk w2 b 248 #[ptr root]:=?_
    rotate_left
    ·first | (have:=a;have:Blk t b 202 #[ptr root]:=by rw[g,s];exact Blk.new (w1.drewN nq) 202 _) | (have:Blk t b 248 #[ptr root]:=by rw[g,s];exact Blk.new (w1.drewN nq) 248 _)
     exact(this.keep kr (by simp)).keep k2 (by simp;omega)
    first | (have:=a;have r:Blk w2 (b+1) 210 #[.slice none 0 0,.slice none 0 0,.slice (V b) 1 1]:=?_) | have r:Blk w2 (b+1) 254 #[.slice none 0 0,.slice none 0 0,.slice (V b) 1 1]:=?_
    rotate_left
    ·first | (have:=a;have:Blk wr (b+1) 210 #[.slice none 0 0,.slice none 0 0,.slice (V b) 1 1]:=by rw[q,<-sb];exact Blk.new t 210 _) | (have:Blk wr (b+1) 254 #[.slice none 0 0,.slice none 0 0,.slice (V b) 1 1]:=by rw[q,<-sb];exact Blk.new t 254 _)
     exact this.keep k2 (by simp;omega)
    first | (have:=a;have Q:Blk w2 bt 204 #[ptr (b+1),I 16,I n]:=?_) | have Q:Blk w2 bt 250 #[ptr (b+1),I 16,I n]:=?_
    rotate_left
    ·have:=((u.o.keep kb (by simp)).keep kr (by simp)).set_ 0 (.pointer (V (b+1)));rw[B];simpa [ptr] using this
    obtain⟨W,j⟩:=vk y.o d.o A.o rfl B2 r (by omega) (by omega) (by omega) (((kb.trans kr).nil).trans k2) Q
    first | (have:=a;have C:=xo w2 bt h (b+1) (ptr (b+1)) (I n) [] [] (root,16,es1,F1) [] [] [b+1,b] Q W rfl rfl rfl (by simp) (by simp) (fun x hx=>?_)) | have C:=xm w2 bt h (b+1) (ptr (b+1)) (I n) [] [] (root,16,es1,F1) [] [] [b+1,b] Q W rfl rfl rfl (by simp) (by simp) (fun x hx=>?_)
    rotate_left
    ·rcases c.o x hx with h | rfl
     ·exact f.o x h
     first | (have:=a;exact⟨⟨_,rfl⟩,⟨_,_,_,rfl⟩⟩) | exact⟨⟨_,rfl⟩,⟨_,rfl⟩⟩
    have C:=bZ C;replace j:=bZ j;clear W B2 r Q k2 kr kb y d A T f u;unfold ptr at C;rw[<-s,<-g,<-q,<-B];refine C.o.mono ?_;clear C B q g sb a1 c2 f2;rintro e w3 ⟨rfl,X⟩;obtain⟨F',z,r,M⟩:=j.o w3 X.o
    first | (have:=a;have ob:∃N,Blk w3 bt 204 #[ptr N,I 16,I n]:=?_) | have ob:∃N,Blk w3 bt 250 #[ptr N,I 16,I n]:=?_
    rotate_left
    ·obtain⟨N,_,_,_,O,_⟩:=z.out_;exact⟨N,O⟩
    obtain⟨N,O⟩:=ob;have u2:=O.cell 2;have an:=O.frozen;replace z:=bZ z;replace r:=bZ r;replace M:=bZ M;clear j X O;cases fd with
    | true=>
     go_wp2_with fail
     first | (have:=a;refine bodyPost_ret (v:=.tuple #[old,.bool true]) (by simp[results,Tryz.results125,go_sem]) rfl ?_) | refine bodyPost_ret (v:=.tuple #[old,.bool true]) (by simp[results,Tryz.results126,go_sem]) rfl ?_
     first | (have:=a;exact⟨old,true,_,_,rfl,z,r,M,c,bZ (fun _=>l.o trivial)⟩) | exact⟨old,true,_,_,rfl,z,r,M,c,bZ (fun h=>by cases h)⟩
    | false=>
     go_wp2_with fail
     first | (have:=a;refine bodyPost_ret (v:=.tuple #[old,.bool false]) (by simp[results,Tryz.results125,go_sem]) rfl ?_) | refine bodyPost_ret (v:=.tuple #[old,.bool false]) (by simp[results,Tryz.results126,go_sem]) rfl ?_
     first | (have:=a;exact⟨old,false,_,_,rfl,bZ (z.o.more r.o _).1,bZ (z.o.more r.o _).2,M,c,bZ (fun _=>l.o trivial)⟩) | exact⟨old,false,_,_,rfl,bZ (z.o.more r.o _).1,bZ (z.o.more r.o _).2,M,c,bZ (fun h=>by cases h)⟩
   have a5:¬(16:Int)<=(m1:Int):=by omega
   have R:=fun k=>vj y.o T.o d.o (A.o.keepR ((aa.refl [] w1).drewN k)) (by omega);replace R:=bZ R;clear A y T d f u;go_wp2_with fail;go_quiet (fail);cases fd with
   | true=>
    go_wp2_with fail
    first | (have:=a;refine bodyPost_ret (v:=.tuple #[old,.bool true]) (by simp[results,Tryz.results125,go_sem]) rfl ?_) | refine bodyPost_ret (v:=.tuple #[old,.bool true]) (by simp[results,Tryz.results126,go_sem]) rfl ?_
    first | (have:=a;exact⟨old,true,_,_,rfl,bZ (R.o nq).1,bZ (R.o nq).2.1,bZ (R.o nq).2.2,c,bZ (fun _=>l.o trivial)⟩) | exact⟨old,true,_,_,rfl,bZ (R.o nq).1,bZ (R.o nq).2.1,bZ (R.o nq).2.2,c,bZ (fun h=>by cases h)⟩
   | false=>
    go_wp2_with fail
    first | (have:=a;refine bodyPost_ret (v:=.tuple #[old,.bool false]) (by simp[results,Tryz.results125,go_sem]) rfl ?_) | refine bodyPost_ret (v:=.tuple #[old,.bool false]) (by simp[results,Tryz.results126,go_sem]) rfl ?_
    first | (have:=a;exact⟨old,false,_,_,rfl,bZ ((R.o nq).1.more (R.o nq).2.1 _).1,bZ ((R.o nq).1.more (R.o nq).2.1 _).2,bZ (R.o nq).2.2,c,bZ (fun _=>l.o trivial)⟩) | exact⟨old,false,_,_,rfl,bZ ((R.o nq).1.more (R.o nq).2.1 _).1,bZ ((R.o nq).1.more (R.o nq).2.1 _).2,bZ (R.o nq).2.2,c,bZ (fun h=>by cases h)⟩
def mP:=fun a b c=>∀(w:World),Calls Tryz.prog a #[I 16] w (fun e w'=>∃bt F,e=.returned (ptr bt)/\Z (aR b c w' bt [] F 0)/\Z (aa [] w w')/\Z (∀x∈F,w.heap.size<=x))
theorem tS:mP 117 tyI 204/\mP 144 tyS 250:=by
 refine⟨?_,?_⟩;have a:=trivial;rotate_left;rotate_left
 all_goals
  intro w
  first | (have:=a;go_enter Tryz.func117,Tryz.ntmps117) | go_enter Tryz.func144,Tryz.ntmps144
  go_wp2_with fail
  first | (have:=a;refine bodyPost_ret (v:=.pointer (V (w.heap.size+1))) (by simp[results,Tryz.results117,go_sem]) rfl ?_) | refine bodyPost_ret (v:=.pointer (V (w.heap.size+1))) (by simp[results,Tryz.results144,go_sem]) rfl ?_
  obtain⟨b,e⟩:∃b,b=w.heap.size:=⟨_,rfl⟩;rw[<-e]
  first | (have:=a;obtain⟨d,c⟩:∃x,x=w.alloc (.cells #[.slice none 0 0,.slice none 0 0,.slice none 0 0] 210):=⟨_,rfl⟩) | obtain⟨d,c⟩:∃x,x=w.alloc (.cells #[.slice none 0 0,.slice none 0 0,.slice none 0 0] 254):=⟨_,rfl⟩
  have i:d.heap.size=b+1:=by rw[c,e];simp
  have k:aa [] w d:=by rw[c];exact(aa.refl [] w).alloc _
  first | (have:=a;have f:aa [] d (d.alloc (.cells #[ptr b,I 16,I 0] 204)):=(aa.refl [] d).alloc _) | have f:aa [] d (d.alloc (.cells #[ptr b,I 16,I 0] 250)):=(aa.refl [] d).alloc _
  first | (have:=a;have g:Blk d b 210 #[.slice none 0 0,.slice none 0 0,.slice none 0 0]:=by rw[c,e];exact Blk.new w 210 _) | (have g:Blk d b 254 #[.slice none 0 0,.slice none 0 0,.slice none 0 0]:=by rw[c,e];exact Blk.new w 254 _)
  first | (have:=a;have h:Blk (d.alloc (.cells #[ptr b,I 16,I 0] 204)) (b+1) 204 #[ptr b,I 16,I 0]:=by rw[<-i];exact Blk.new d 204 _) | (have h:Blk (d.alloc (.cells #[ptr b,I 16,I 0] 250)) (b+1) 250 #[ptr b,I 16,I 0]:=by rw[<-i];exact Blk.new d 250 _)
  refine⟨b+1,[b+1,b],rfl,bZ ⟨b,0,0,[b],?_,⟨[],[],[b],rfl,⟨none,0,none,0,none,0,?_,bQ _ _ _ _,bQ _ _ _ _,bQ _ _ _ _,rfl⟩,rfl,.inl ⟨rfl,rfl,rfl⟩⟩,.inl rfl,by omega,by simp,by simp,rfl⟩,bZ ?_,bZ ?_⟩
  ·rw[<-c];exact h
  ·rw[<-c];exact g.keep f (by simp)
  ·rw[<-c];exact k.trans f
  intro x j;simp at j;omega
theorem xM {w:World} {e n:Nat} {v:Value} {d f:List Value} (h:w.ownsRow 0 e 1 v n d) (k:w.ownsRow 0 e 1 v n f) (q:d.length=n) (r:f.length=n):d=f:=by
 rcases DY n with b | b
 ·rw[Dh (q.trans b),Dh (r.trans b)]
 obtain⟨g,c,m,_,_,_,_,o,_⟩:=ax h b;obtain⟨t,c',a,_,_,_,_,s,_⟩:=ax k b;rw[m] at a;injection a with a;injection a with a;injection a with a;subst a;refine Ee (fun j=>?_);rcases DR j n with p | p
 ·have l:=o j _ (CT (by omega:j<d.length));have i:=s j _ (CT (by omega:j<f.length));rw[l] at i;rw[CT (by omega:j<d.length),CT (by omega:j<f.length)];exact i
 rw[D9 (by omega),D9 (by omega)]
theorem aX.same {T:BTy} {w:World} {p:Nat} {o s ks' vs':List Value} {cs cs' F g:List Nat} (h:aX T w p o s cs F) (k:aX T w p ks' vs' cs' g):cs=cs':=by
 obtain⟨A,B,C,D,t,u,e,v,x,l,_⟩:=h;obtain⟨m,n,q,r,i,j,c,y,z,f,_⟩:=k;unfold Blk at e c;rw[e] at c;injection c with c;injection c with c _ _;injection c with c;injection c with _ c;injection c with _ c;injection c with c _;injection c with e1 e2 e3;subst e1 e3;rw[<-e2] at f;have:=xM l f (by simp) (by simp[e2]);have d:∀a b:Nat,ptr a=ptr b->a=b:=fun a b h=>by
  unfold ptr at h;injection h with h;injection h with h;injection h with h
 exact(List.map_inj_right (fun a b=>d a b)).1 this
theorem Rep.unique {T:BTy} {w:World}:∀ {h k p m l:Nat} {j d:List Ent} {F i:List Nat},Rep T w h p m j F->Rep T w k p l d i->h=k
 | 0,0,_,_,_,_,_,_,_,_,_=>rfl
 | 0,k+1,p,m,l,j,d,F,i,a,b=>by
  obtain⟨en,kids,t,_,_,r,_,g,_⟩:=b;have:=a.2.same g;have n:(kids.map (·.1)).length=0:=by rw[<-this];rfl
  rw[Df] at n;omega
 | h+1,0,p,m,l,j,d,F,i,a,b=>by
  obtain⟨en,kids,t,_,_,r,_,g,_⟩:=a;have:=b.2.same g;have n:(kids.map (·.1)).length=0:=by rw[<-this];rfl
  rw[Df] at n;omega
 | h+1,k+1,p,m,l,j,d,F,i,a,b=>by
  obtain⟨en,kids,t,_,_,r,_,g,A,_⟩:=a;obtain⟨z,f,v,_,_,s,_,o,q,_⟩:=b;have:=g.same o;cases kids with
  | nil=>simp at r
  | cons c K=>
   cases f with
   | nil=>simp at s
   | cons c' K'=>
    injection this with e _;have x:=(A c (by simp)).1;have u:=(q c' (by simp)).1;have y:c.1=c'.1:=e;rw[<-y] at u;rw[Rep.unique x u]
open Classical in
noncomputable def yx (T:BTy) (w:World) (v:Value):Nat:=if h:∃n p m a F,v=ptr p/\Rep T w n p m a F then h.choose else 0
theorem my {T:BTy} {w:World} {n p m:Nat} {a:List Ent} {F:List Nat} (h:Rep T w n p m a F):yx T w (.pointer (V p))=n:=by
 have b:∃n q m a F,Value.pointer (V p)=ptr q/\Rep T w n q m a F:=⟨n,p,m,a,F,rfl,h⟩;unfold yx;rw[dif_pos b];obtain⟨q,g,c,f,e,d⟩:=b.choose_spec;unfold ptr at e;injection e with e;injection e with e;injection e with e;subst e;exact d.unique h
theorem sz {K:List Kid} {E:List Ent} {c:Kid} (h:K.length=E.length+1) (e:K[E.length]? =some c) (a:c.2.2.1≠[]):(ao K E).getLast? =c.2.2.1.getLast?:=by
 have b:=du e;have f:K.drop (E.length+1)=[]:=D0 (by omega);rw[f] at b;have d:E.length=(K.take E.length).length:=by rw[CY];omega
 rw[b,lk _ E c d,List.getLast?_append];cases g:c.2.2.1.getLast? with
 | none=>exact absurd (List.getLast?_eq_none_iff.1 g) a
 | some x=>simp
theorem Rep.ne {T:BTy} {w:World}:∀ {h p m:Nat} {b:List Ent} {F:List Nat},Rep T w h p m b F->1<=m->b≠[]
 | 0,p,m,b,F,h,hm=>by rintro rfl;have:=h.1;simp at this;omega
 | h+1,p,m,b,F,hr,hm=>by
  obtain⟨en,kids,g,d,_,f,rfl,_⟩:=hr;intro c;cases en with
  | nil=>simp at d;omega
  | cons e E=>
   have:=bL f (List.mem_cons_self (a:=e) (l:=E));rw[c] at this;cases this
def AV (w:World) (a:List Ent) (e:Ending) (w':World):Prop:=∃x:Ent,e=.returned (.tuple #[x.1,x.2])/\Z (a.getLast? =some x)/\Z (aa [] w w')
theorem ie (w:World) (a:Nat) (b c:Value) (d:w.cell? (U a 1)=some (I 16)):Calls Tryz.prog 184 #[.pointer (V a)] w fun e w'=>e=.returned (I 7)/\w=w':=by
 go_enter Tryz.func184,Tryz.ntmps184;go_wp2_with fail;go_ret;exact⟨rfl,rfl⟩
theorem ic (w:World) (a:Nat) (b c:Value) (d:w.cell? (U a 1)=some (I 16)):Calls Tryz.prog 188 #[.pointer (V a)] w fun e w'=>e=.returned (I 7)/\w=w':=by
 go_enter Tryz.func188,Tryz.ntmps188;go_wp2_with fail;go_ret;exact⟨rfl,rfl⟩
def pa:=fun c d=>∀(w:World) (p h m:Nat) (a:List Ent) (F:List Nat) (f:Rep c w h p m a F) (e:1<=m) (b:m<=1000),Calls Tryz.prog d #[.pointer (V p)] w (AV w a)
theorem xZ:pa tyI 183/\pa tyS 187:=by
 refine⟨?_,?_⟩;have d:=trivial;rotate_left;rotate_left
 all_goals
  intro w p h m N F hr hm B;replace hr:=bZ hr
  first | (have:=d;go_enter Tryz.func183,Tryz.ntmps183) | go_enter Tryz.func187,Tryz.ntmps187
  go_wp2_with fail
  first | (have:=d;go_loopw [0] (fun D wr=>∃(q u s:Nat) (b:List Ent) (M:List Nat),D=.pointer (V q)/\Z (aa [] w wr)/\Z (Rep tyI w u q s b M)/\1<=s/\s<=1000/\Z (b.getLast? =N.getLast?)) (fun D _=>yx tyI w D)) | go_loopw [0] (fun D wr=>∃(q u s:Nat) (b:List Ent) (M:List Nat),D=.pointer (V q)/\Z (aa [] w wr)/\Z (Rep tyS w u q s b M)/\1<=s/\s<=1000/\Z (b.getLast? =N.getLast?)) (fun D _=>yx tyS w D)
  case atStart=>exact⟨p,h,m,N,F,rfl,bZ (aa.refl _ _),hr,hm,B,bZ rfl⟩
  obtain⟨q,u,s,b,M,rfl,r,C,Y,K,f⟩:=hrel;obtain⟨wo,a1⟩:∃x,x=wr:=⟨_,rfl⟩;subst a1;cases u with
  | zero=>
   have R:=C.o;obtain⟨rfl,l⟩:=R
   first | (have:=d;have a:=bM.1 wo q _ _ _ _ (l.keep r.o (by simp)) (by simp)) | have a:=bM.2 wo q _ _ _ _ (l.keep r.o (by simp)) (by simp)
   unfold ptr at a;rw[show decide (([]:List Nat).length=0)=true from rfl] at a;obtain⟨kA,kc,vA,vc,cA,cc,j,A,O,_,rfl⟩:=l.keep r.o (by simp);obtain⟨n,i⟩:∃n,b.length=n+1:=⟨b.length - 1,by omega⟩;unfold wT at A O;rw[Df,i] at A O;rw[Df,Df,i] at j;obtain⟨x,hx⟩:∃x,b[n]? =some x:=⟨_,CT (by omega)⟩;obtain⟨gk,c1,t,_,_,_,_,H,_⟩:=ax A (by omega);obtain⟨gv,c2,P,_,_,_,_,L,_⟩:=ax O (by omega);injection t with t _ e1';injection P with P _ e2';subst t e1' P e2';have x0:=j.cell 0;have x1:=j.cell 1;have ck:=H n x.1 (by rw[De,hx];rfl);have cv:=L n x.2 (by rw[De,hx];rfl);have z:b.getLast? =some x:=by rw[List.getLast?_eq_getElem?,i];exact hx
   replace z:=bZ z;have a6:((n+1:Nat):Int)=(n:Int)+1:=by omega
   have a7:∀k,(wo.drewN k).cell? (U q 0)=G (V gk) (n+1) kc:=fun k=>x0;have a8:∀k,(wo.drewN k).cell? (U q 1)=G (V gv) (n+1) vc:=fun k=>x1;have X:(n:Int)<(n:Int)+1:=by omega
   have a2:IntKind.i64.wrap ((n:Int)+1 - 1)=(n:Int):=by rw[C0 _ (by omega)];omega
   clear j A O H L;go_wp2_with fail;refine a.mono ?_;rintro e w' ⟨rfl,rfl⟩;clear a;go_wp2_with fail;go_quiet (fail);go_wp2_with fail
   first | (have:=d;refine bodyPost_ret (v:=.tuple #[x.1,x.2]) (by simp[results,Tryz.results183,go_sem]) rfl ?_) | refine bodyPost_ret (v:=.tuple #[x.1,x.2]) (by simp[results,Tryz.results187,go_sem]) rfl ?_
   exact⟨x,rfl,bZ (f.o▸z.o),bZ (r.o.drewN _)⟩
  | succ u=>
   have R:=C.o;obtain⟨en,kids,F0,rfl,_,J,rfl,l,A,rfl⟩:=R;obtain⟨n,i⟩:∃n,n=en.length:=⟨_,rfl⟩;rw[<-i] at J Y K;obtain⟨c,S⟩:∃c,kids[n]? =some c:=⟨_,CT (by omega)⟩;have T:c∈kids:=CW S;obtain⟨g,a5,a3⟩:=A c T
   first | (have:=d;have a:=bM.1 wo q _ _ _ _ (l.keep r.o (by simp)) (by simp;omega)) | (have a:=bM.2 wo q _ _ _ _ (l.keep r.o (by simp)) (by simp;omega))
   unfold ptr at a;rw[Df,J,show decide (n+1=0)=false from by simp] at a;obtain⟨kA,kc,vA,vc,cA,cc,j,_,_,y,rfl⟩:=l.keep r.o (by simp);rw[Df,J] at y;rw[Df,Df,Df,J] at j;obtain⟨Q,c1,t,_,_,_,_,E,_⟩:=ax y (by omega);injection t with t _ e1';subst t e1';have x2:=j.cell 2;have xc:wo.cell? (U Q n)=some (.pointer (V c.1)):=E n _ (by rw[De,De,S];rfl);have a9:∀k,(wo.drewN k).cell? (U q 2)=G (V Q) (n+1) cc:=fun k=>x2;have ac:∀k,(wo.drewN k).cell? (U Q n)=some (.pointer (V c.1)):=fun k=>xc;have X:(n:Int)<(n:Int)+1:=by omega
   have a2:IntKind.i64.wrap ((n:Int)+1 - 1)=(n:Int):=by rw[C0 _ (by omega)];omega
   have a4:IntKind.i64.wrap (n:Int)=(n:Int):=C0 _ (by omega);have W:Z (c.2.2.1.getLast? =N.getLast?):=bZ (by rw[<-f.o];exact(sz (by rw[J,i]) (by rw[<-i];exact S) (g.ne (by omega))).symm);have a0:=my C.o;have B:=my g;replace g:=bZ g;clear j y E A l;replace i:=bZ i;go_wp2_with fail;refine a.mono ?_;rintro e w' ⟨rfl,rfl⟩;clear a;go_wp2_with fail;go_quiet (fail);go_wp2_with fail;go_roundw
   case rel=>exact⟨c.1,u,c.2.1,c.2.2.1,c.2.2.2,by first | trivial | rfl,bZ (r.o.drewN _),g,by omega,by omega,W⟩
   case measure=>rw[a0,B];omega
section
variable {T:BTy} {w w1:World} {p:Nat} {kA vA cA kA' vA':Option Addr} {kc vc cc kc' vc' n':Nat} {ks vs ks' vs':List Value} {cs:List Nat}
theorem aU.keys1 (h:aU T w p kA kc vA vc cA cc ks vs cs) (l:ks'.length=n') (u:w1.ownsRow 0 T.tk 1 (.slice kA' n' kc') n' ks') (i:aa (fb kA) w w1) (k:∀g∈fb kA',g∈fb kA\/w.heap.size<=g):
 aU T (w1.setCell (U p 0) (.slice kA' n' kc')) p kA' kc' vA vc cA cc ks' vs cs/\aa (p::fb kA) w (w1.setCell (U p 0) (.slice kA' n' kc'))/\(∀x∈ay p kA' vA cA,x∈ay p kA vA cA\/w.heap.size<=x):=by
  subst l;obtain⟨⟨o,q,r⟩,f,s⟩:=aW.1 h.nd;have d:=h.lt;have v:p<w.heap.size:=d p (by simp[ay]);have e:p∉fb kA':=fun b=>(k p b).elim o (fun h=>by omega);have n:∀x∈fb kA',x∉fb vA:=fun x a b=>(k x a).elim (fun h=>(f x h).1 b) (fun t=>by have:=d x (by simp[ay,b]);omega);have m:∀x∈fb kA',x∉fb cA:=fun x a b=>(k x a).elim (fun h=>(f x h).2 b) (fun t=>by have:=d x (by simp[ay,b]);omega);have j:aa [p] w1 (w1.setCell (U p 0) (.slice kA' ks'.length kc')):=(aa.refl [p] w1).setCell (p:=(U p 0)) (.inl (by simp)) _;refine⟨⟨?_,?_,?_,?_,aW.2 ⟨⟨e,q,r⟩,fun x a=>⟨n x a,m x a⟩,s⟩⟩,?_,?_⟩
  ·have:=(h.blk.keep i o).set_ 0 (.slice kA' ks'.length kc');simpa using this
  ·exact aq u j (fun y c b=>by rw[CZ.1 c] at b;exact e b)
  ·exact aq (aq h.rv i (fun y c b=>(f y c).1 b)) j (fun y c b=>by rw[CZ.1 c] at b;exact q b)
  ·exact aq (aq h.rc i (fun y c b=>(f y c).2 b)) j (fun y c b=>by rw[CZ.1 c] at b;exact r b)
  ·exact(i.mono (fun x a=>.inl (by simp[a]))).trans (j.mono (fun x a=>.inl (by simp at a;simp[a])))
  intro x a;simp only[ay,Db,CX] at a ⊢;rcases a with a | a | a | a
  ·exact .inl (.inl a)
  ·exact(k x a).imp (fun h=>.inr (.inl h)) id
  ·exact .inl (.inr (.inr (.inl a)))
  exact .inl (.inr (.inr (.inr a)))
theorem aU.vals1 (h:aU T w p kA kc vA vc cA cc ks vs cs) (m:vs'.length=n') (u:w1.ownsRow 0 T.tv 1 (.slice vA' n' vc') n' vs') (f:aa (fb vA) w w1) (j:∀g∈fb vA',g∈fb vA\/w.heap.size<=g):
 aU T (w1.setCell (U p 1) (.slice vA' n' vc')) p kA kc vA' vc' cA cc ks vs' cs/\aa (p::fb vA) w (w1.setCell (U p 1) (.slice vA' n' vc'))/\(∀x∈ay p kA vA' cA,x∈ay p kA vA cA\/w.heap.size<=x):=by
  subst m;obtain⟨⟨o,q,r⟩,k,s⟩:=aW.1 h.nd;have d:=h.lt;have v:p<w.heap.size:=d p (by simp[ay]);have e:p∉fb vA':=fun b=>(j p b).elim q (fun h=>by omega);have l:∀x∈fb kA,x∉fb vA':=fun x a b=>(j x b).elim (fun h=>(k x a).1 h) (fun t=>by have:=d x (by simp[ay,a]);omega);have n:∀x∈fb vA',x∉fb cA:=fun x a b=>(j x a).elim (fun h=>s x h b) (fun t=>by have:=d x (by simp[ay,b]);omega);have i:aa [p] w1 (w1.setCell (U p 1) (.slice vA' vs'.length vc')):=(aa.refl [p] w1).setCell (p:=(U p 1)) (.inl (by simp)) _;refine⟨⟨?_,?_,?_,?_,aW.2 ⟨⟨o,e,r⟩,fun x a=>⟨l x a,(k x a).2⟩,n⟩⟩,?_,?_⟩
  ·have:=(h.blk.keep f q).set_ 1 (.slice vA' vs'.length vc');simpa using this
  ·exact aq (aq h.rk f (fun y c b=>(k y b).1 c)) i (fun y c b=>by rw[CZ.1 c] at b;exact o b)
  ·exact aq u i (fun y c b=>by rw[CZ.1 c] at b;exact e b)
  ·exact aq (aq h.rc f (fun y c b=>s y c b)) i (fun y c b=>by rw[CZ.1 c] at b;exact r b)
  ·exact(f.mono (fun x a=>.inl (by simp[a]))).trans (i.mono (fun x a=>.inl (by simp at a;simp[a])))
  intro x a;simp only[ay,Db,CX] at a ⊢;rcases a with a | a | a | a
  ·exact .inl (.inl a)
  ·exact .inl (.inr (.inl a))
  ·exact(j x a).imp (fun h=>.inr (.inr (.inl h))) id
  exact .inl (.inr (.inr (.inr a)))
theorem aU.num {n m:Nat} (h:aU T w p kA kc vA vc cA cc ks vs cs) (e:ks.length=n) (f:vs.length=n) (g:cs.length=m):
 Blk w p T.tn #[.slice kA n kc,.slice vA n vc,.slice cA m cc]/\w.ownsRow 0 T.tk 1 (.slice kA n kc) n ks/\w.ownsRow 0 T.tv 1 (.slice vA n vc) n vs/\w.ownsRow 0 T.tp 1 (.slice cA m cc) m (cs.map ptr):=by
  have a:=h.blk;have b:=h.rk;have c:=h.rv;have d:=h.rc;rw[e,f,g] at a;rw[e] at b;rw[f] at c;rw[g] at d;exact⟨a,b,c,d⟩
end
theorem dz {e:TypeId} {w w':World} {A:Option Addr} {n m c:Nat} {v:Value} {i j:List Value} (h:Z (w'.ownsRow 0 e 1 v (n+m) (i++j))) (l:Z (w.grownBy w' (Value.slice A n c).ownBlock)) (a:Z (v.ownBlock=(Value.slice A n c).ownBlock\/v.ownBlock=some w.heap.size)):
 ∃b c',v=.slice b (n+m) c'/\Z (w'.ownsRow 0 e 1 (.slice b (n+m) c') (n+m) (i++j))/\Z (aa (fb A) w w')/\Z (∀g∈fb b,g∈fb A\/w.heap.size<=g):=by
  obtain⟨b,c',rfl,_⟩:=aH h.o;refine⟨b,c',rfl,h,bZ (aa.grown l.o (fun k p=>cW p)),bZ (fun g d=>?_)⟩;have f:(Value.slice b (n+m) c').ownBlock=some g:=by rw[<-D8,iR];exact d
  rcases a.o with a | a
  ·rw[f] at a;exact .inl (cW a.symm)
  rw[f] at a;injection a with a;exact .inr (by omega)
theorem cG {l:List Nat} (h:l.Nodup) (i:Nat) (m:List Nat) {g:Nat} {L:List Nat} (t:l[i]? =some g) (u:m.map (fun j=>l[j]?)=L.map some) (d:i∉m):∀y∈[g],y∉L:=fun y v p=>by
 rw[CZ.1 v] at p;have r:some g∈m.map (fun j=>l[j]?):=by rw[u];exact List.mem_map_of_mem p
 obtain⟨j,f,e⟩:=Dt.1 r;obtain⟨a,n⟩:=CV.1 t;obtain⟨b,o⟩:=CV.1 e;have q:=Ex.1 h;have:i=j:=by
  rcases Nat.lt_trichotomy i j with k | s | c
  ·exact absurd (n.trans o.symm) (q i j a b k)
  ·exact s
  exact absurd (o.trans n.symm) (q j i b a c)
 exact d (this▸f)
theorem aE.ls {T:BTy} {O w:World} {p q r l m k f g i j:Nat} {d e:Option Addr} {C D B u v t z A x:Nat} {ks vs K M L N:List Value} {cs E H F:List Nat}
 (h:aE T O w p q r (V l) (V m) (V k) (V f) (V g) d (V i) (V j) e C D B u v t z A x ks vs K M L N cs E H F):
 [p,l,m,k,q,f,g,r,i,j].Nodup/\(∀y∈fb d,y∉[p,l,m,k,q,f,g,r,i,j])/\(∀y∈fb e,y∉[p,l,m,k,q,f,g,r,i,j])/\(∀y∈fb d,y∉fb e):=by
  have s:([p,l,m,k]++(([q,f,g]++fb d)++([r,i,j]++fb e))).Nodup:=h.nd;have J:[p,l,m,k,q,f,g,r,i,j]=[p,l,m,k]++([q,f,g]++[r,i,j]):=rfl;rw[J];refine⟨s.sublist (List.Sublist.append (List.Sublist.refl _) (List.Sublist.append (List.sublist_append_left _ _) (List.sublist_append_left _ _))),fun y o n=>?_,fun y o n=>?_,fun y o n=>?_⟩
  ·have a:=Do.1 s y;have b:1<=List.count y (fb d):=D4.2 o;have c:1<=List.count y ([p,l,m,k]++([q,f,g]++[r,i,j])):=D4.2 n;simp only[DN] at a c;omega
  ·have a:=Do.1 s y;have b:1<=List.count y (fb e):=D4.2 o;have c:1<=List.count y ([p,l,m,k]++([q,f,g]++[r,i,j])):=D4.2 n;simp only[DN] at a c;omega
  have a:=Do.1 s y;have b:1<=List.count y (fb d):=D4.2 o;have c:1<=List.count y (fb e):=D4.2 n;simp only[DN] at a;omega
end Go.Proofs.YtmlmfpikncogpaaGreat
